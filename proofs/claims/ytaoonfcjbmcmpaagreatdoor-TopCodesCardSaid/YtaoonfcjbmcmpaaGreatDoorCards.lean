/-
  DERIVED. GIVEN WITH THE SEED: THE CARDS: each row of YtaoonfcjbmcmpaaGreatDoorRows.lean that lists a variable, with what it lists TIED to the program's text (the seventh form; the later family's looks); each row that meets fmt, with fmt's text TOLD by the authors' own Lean function (tested against real Go, not proved from fmt's source: count such statements apart). THE CARD IS WHAT COUNTS. Prove the row's statement (the work); the ties are given (YtaoonfcjbmcmpaaGreatDoorTie.lean); close each card by the builder's one call (the guide's Derived/Test/ToyasCard.lean, 'card_holds'). Laid BY PROGRAM, IN A SANDBOX (cutbox-door.mjs). By AI agents, Wed Nov 11 2026. No macro, syntax, notation, axiom, sorry.
-/
import Derived.Test.YtaoonfcjbmcmpaaGreatDoorRows
import GoSem.ClaimSeven
namespace Go.Proofs.YtaoonfcjbmcmpaaGreatDoor
namespace Rows

/-- THE TIED CARD OF 'grammarlabtop.TopCodes'. -/
def topCodesCard : Claim7 := { stood := { row := topCodesRow, standIns := [], harness := (true, "74aa471eecf397c219268a4dfdffad8685e76dad7a34c53820954a82cbf5e5ca"), looks := false }, kinds := [], alts := [], laidByText := true, laidKinds := [.data], laidTests := true, laidLooks := .later }
def TopCodesCardSaid : Prop := Claim7.holds Tryz.pinned (.plain (OpenSpec.ofChange topCodesSpec)) topCodesCard

/-- THE SECOND FORM's CARD OF 'grammarlabtop.TopCodes'. -/
def topCodesUptoCard : Claim7 := { stood := { row := topCodesUptoRow, standIns := [], harness := (true, "74aa471eecf397c219268a4dfdffad8685e76dad7a34c53820954a82cbf5e5ca"), looks := false }, kinds := [], alts := [], laidByText := true, laidKinds := [.data], laidTests := true, laidLooks := .later }
def TopCodesUptoCardSaid : Prop := Claim7.holds Tryz.pinned (.plain (OpenSpec.upto topCodesSpec)) topCodesUptoCard
end Rows
end Go.Proofs.YtaoonfcjbmcmpaaGreatDoor

/-
  No cell of these rows narrows 'for every input' (looked for: loops, veiled, ifaces, maps, wideKeys, modest, calm, conditions, laid).
  DERIVED. THE GIVEN ROWS OF THIS SEAT. 9 by the template 'for every input the law returns true; each argument reads behind the call as it read before'; 0 by the template 'total and deterministic' (their statements: YtdapahgnpbehbaaGreatTotals.lean).
  GIVEN WITH THE SEED: the statements are not yours to turn. If you find one false, say at which input.
  Laid BY PROGRAM, IN A SANDBOX (cutbox-rows.mjs): the forced cells as the released guide's own fill.sh prints them over the translation 4e7cde6016c4a384… (all of the seat's roots in one cut). By AI agents, Wed Nov 11 2026. No macro, syntax, notation, axiom, sorry.
-/
import Derived.Test.YtdapahgnpbehbaaGreatChecked
import GoSem.Claim
import GoSem.ClaimJoined
import GoSem.ClaimMapViews
import Derived.JoinedTies
import Derived.KernelRfl
namespace Go.Proofs.YtdapahgnpbehbaaGreat
/- THE CELL 'sum', in the pinned program and in every row, IS THE sha256 OF THE DUMP (.gsa) THAT YtdapahgnpbehbaaGreatProg.lean LOADS. Nothing in Lean hashes anything: it is a label: what it is worth is what the hold of that sum in a sandbox is worth. -/
noncomputable def Tryz.pinned : Pinned := { name := "ytdapahgnpbehbaagreat", sum := "4e7cde6016c4a3841f536760931629b30695337618a41c518bc48a181513c6f9", checked := Tryz.checked }
namespace Rows
def none {H : Type} : Left H := { results := [], args := [] }

/-- 'grammarlablaw14.TypedChecks': WHATEVER THE INPUT: true; the input reads as it did. -/
def typedChecksSpec : ChangeSpec := { name := "typedChecks", fn := fun _ => fun
  | [d1, d2] => { results := [.lit (.bool true)], args := [d1, d2] }
  | _ => none }
def typedChecksRow : OpenClaim := { program := "ytdapahgnpbehbaagreat", sum := "4e7cde6016c4a3841f536760931629b30695337618a41c518bc48a181513c6f9", func := "grammarlab/grammarlablaw14.TypedChecks", spec := "typedChecks", unfollowed := true, recurses := true, apart := false }
def TypedChecksSaid : Prop := typedChecksRow.holds Tryz.pinned (OpenSpec.ofChange typedChecksSpec)

/-- ITS FALSE NEIGHBOUR: 'it returns false'. Refute it at one input. -/
def typedChecksWrong : ChangeSpec := { name := "typedChecks", fn := fun _ => fun
  | [d1, d2] => { results := [.lit (.bool false)], args := [d1, d2] }
  | _ => none }
def TypedChecksWrongFalsely : Prop := typedChecksRow.holds Tryz.pinned (OpenSpec.ofChange typedChecksWrong)

/-- 'grammarlablaw14.TypedInfers': WHATEVER THE INPUT: true; the input reads as it did. -/
def typedInfersSpec : ChangeSpec := { name := "typedInfers", fn := fun _ => fun
  | [d1, d2] => { results := [.lit (.bool true)], args := [d1, d2] }
  | _ => none }
def typedInfersRow : OpenClaim := { program := "ytdapahgnpbehbaagreat", sum := "4e7cde6016c4a3841f536760931629b30695337618a41c518bc48a181513c6f9", func := "grammarlab/grammarlablaw14.TypedInfers", spec := "typedInfers", unfollowed := true, recurses := true, apart := false }
def TypedInfersSaid : Prop := typedInfersRow.holds Tryz.pinned (OpenSpec.ofChange typedInfersSpec)

/-- ITS FALSE NEIGHBOUR: 'it returns false'. Refute it at one input. -/
def typedInfersWrong : ChangeSpec := { name := "typedInfers", fn := fun _ => fun
  | [d1, d2] => { results := [.lit (.bool false)], args := [d1, d2] }
  | _ => none }
def TypedInfersWrongFalsely : Prop := typedInfersRow.holds Tryz.pinned (OpenSpec.ofChange typedInfersWrong)

/-- 'grammarlablaw14.TypedTotals': WHATEVER THE INPUT: true; the input reads as it did. -/
def typedTotalsSpec : ChangeSpec := { name := "typedTotals", fn := fun _ => fun
  | [d1, d2] => { results := [.lit (.bool true)], args := [d1, d2] }
  | _ => none }
def typedTotalsRow : OpenClaim := { program := "ytdapahgnpbehbaagreat", sum := "4e7cde6016c4a3841f536760931629b30695337618a41c518bc48a181513c6f9", func := "grammarlab/grammarlablaw14.TypedTotals", spec := "typedTotals", unfollowed := true, recurses := true, apart := false }
def TypedTotalsSaid : Prop := typedTotalsRow.holds Tryz.pinned (OpenSpec.ofChange typedTotalsSpec)

/-- ITS FALSE NEIGHBOUR: 'it returns false'. Refute it at one input. -/
def typedTotalsWrong : ChangeSpec := { name := "typedTotals", fn := fun _ => fun
  | [d1, d2] => { results := [.lit (.bool false)], args := [d1, d2] }
  | _ => none }
def TypedTotalsWrongFalsely : Prop := typedTotalsRow.holds Tryz.pinned (OpenSpec.ofChange typedTotalsWrong)

/-- 'grammarlablaw14.TypedLeast': WHATEVER THE INPUT: true; the input reads as it did. -/
def typedLeastSpec : ChangeSpec := { name := "typedLeast", fn := fun _ => fun
  | [d1, d2, d3] => { results := [.lit (.bool true)], args := [d1, d2, d3] }
  | _ => none }
def typedLeastRow : OpenClaim := { program := "ytdapahgnpbehbaagreat", sum := "4e7cde6016c4a3841f536760931629b30695337618a41c518bc48a181513c6f9", func := "grammarlab/grammarlablaw14.TypedLeast", spec := "typedLeast", unfollowed := true, recurses := true, apart := false }
def TypedLeastSaid : Prop := typedLeastRow.holds Tryz.pinned (OpenSpec.ofChange typedLeastSpec)

/-- ITS FALSE NEIGHBOUR: 'it returns false'. Refute it at one input. -/
def typedLeastWrong : ChangeSpec := { name := "typedLeast", fn := fun _ => fun
  | [d1, d2, d3] => { results := [.lit (.bool false)], args := [d1, d2, d3] }
  | _ => none }
def TypedLeastWrongFalsely : Prop := typedLeastRow.holds Tryz.pinned (OpenSpec.ofChange typedLeastWrong)

/-- 'grammarlablaw14.TypedFull': WHATEVER THE INPUT: true; the input reads as it did. -/
def typedFullSpec : ChangeSpec := { name := "typedFull", fn := fun _ => fun
  | [d1, d2] => { results := [.lit (.bool true)], args := [d1, d2] }
  | _ => none }
def typedFullRow : OpenClaim := { program := "ytdapahgnpbehbaagreat", sum := "4e7cde6016c4a3841f536760931629b30695337618a41c518bc48a181513c6f9", func := "grammarlab/grammarlablaw14.TypedFull", spec := "typedFull", unfollowed := true, recurses := true, apart := false }
def TypedFullSaid : Prop := typedFullRow.holds Tryz.pinned (OpenSpec.ofChange typedFullSpec)

/-- ITS FALSE NEIGHBOUR: 'it returns false'. Refute it at one input. -/
def typedFullWrong : ChangeSpec := { name := "typedFull", fn := fun _ => fun
  | [d1, d2] => { results := [.lit (.bool false)], args := [d1, d2] }
  | _ => none }
def TypedFullWrongFalsely : Prop := typedFullRow.holds Tryz.pinned (OpenSpec.ofChange typedFullWrong)

/-- 'grammarlablaw14.TypedUnifies': WHATEVER THE INPUT: true; the input reads as it did. -/
def typedUnifiesSpec : ChangeSpec := { name := "typedUnifies", fn := fun _ => fun
  | [d1, d2, d3] => { results := [.lit (.bool true)], args := [d1, d2, d3] }
  | _ => none }
def typedUnifiesRow : OpenClaim := { program := "ytdapahgnpbehbaagreat", sum := "4e7cde6016c4a3841f536760931629b30695337618a41c518bc48a181513c6f9", func := "grammarlab/grammarlablaw14.TypedUnifies", spec := "typedUnifies", unfollowed := true, recurses := true, apart := false }
def TypedUnifiesSaid : Prop := typedUnifiesRow.holds Tryz.pinned (OpenSpec.ofChange typedUnifiesSpec)

/-- ITS FALSE NEIGHBOUR: 'it returns false'. Refute it at one input. -/
def typedUnifiesWrong : ChangeSpec := { name := "typedUnifies", fn := fun _ => fun
  | [d1, d2, d3] => { results := [.lit (.bool false)], args := [d1, d2, d3] }
  | _ => none }
def TypedUnifiesWrongFalsely : Prop := typedUnifiesRow.holds Tryz.pinned (OpenSpec.ofChange typedUnifiesWrong)

/-- 'grammarlablaw14.TypedLaws': WHATEVER THE INPUT: true; the input reads as it did. -/
def typedLawsSpec : ChangeSpec := { name := "typedLaws", fn := fun _ => fun
  | [d1, d2] => { results := [.lit (.bool true)], args := [d1, d2] }
  | _ => none }
def typedLawsRow : OpenClaim := { program := "ytdapahgnpbehbaagreat", sum := "4e7cde6016c4a3841f536760931629b30695337618a41c518bc48a181513c6f9", func := "grammarlab/grammarlablaw14.TypedLaws", spec := "typedLaws", unfollowed := true, recurses := true, apart := false }
def TypedLawsSaid : Prop := typedLawsRow.holds Tryz.pinned (OpenSpec.ofChange typedLawsSpec)

/-- ITS FALSE NEIGHBOUR: 'it returns false'. Refute it at one input. -/
def typedLawsWrong : ChangeSpec := { name := "typedLaws", fn := fun _ => fun
  | [d1, d2] => { results := [.lit (.bool false)], args := [d1, d2] }
  | _ => none }
def TypedLawsWrongFalsely : Prop := typedLawsRow.holds Tryz.pinned (OpenSpec.ofChange typedLawsWrong)

/-- 'grammarlablaw14.TypedPlaces': WHATEVER THE INPUT: true; the input reads as it did. -/
def typedPlacesSpec : ChangeSpec := { name := "typedPlaces", fn := fun _ => fun
  | [d1, d2] => { results := [.lit (.bool true)], args := [d1, d2] }
  | _ => none }
def typedPlacesRow : OpenClaim := { program := "ytdapahgnpbehbaagreat", sum := "4e7cde6016c4a3841f536760931629b30695337618a41c518bc48a181513c6f9", func := "grammarlab/grammarlablaw14.TypedPlaces", spec := "typedPlaces", unfollowed := true, recurses := true, apart := false }
def TypedPlacesSaid : Prop := typedPlacesRow.holds Tryz.pinned (OpenSpec.ofChange typedPlacesSpec)

/-- ITS FALSE NEIGHBOUR: 'it returns false'. Refute it at one input. -/
def typedPlacesWrong : ChangeSpec := { name := "typedPlaces", fn := fun _ => fun
  | [d1, d2] => { results := [.lit (.bool false)], args := [d1, d2] }
  | _ => none }
def TypedPlacesWrongFalsely : Prop := typedPlacesRow.holds Tryz.pinned (OpenSpec.ofChange typedPlacesWrong)

/-- 'grammarlablaw14.TypedMeets': WHATEVER THE INPUT: true; the input reads as it did. -/
def typedMeetsSpec : ChangeSpec := { name := "typedMeets", fn := fun _ => fun
  | [d1, d2] => { results := [.lit (.bool true)], args := [d1, d2] }
  | _ => none }
def typedMeetsRow : OpenClaim := { program := "ytdapahgnpbehbaagreat", sum := "4e7cde6016c4a3841f536760931629b30695337618a41c518bc48a181513c6f9", func := "grammarlab/grammarlablaw14.TypedMeets", spec := "typedMeets", unfollowed := true, recurses := true, apart := false }
def TypedMeetsSaid : Prop := typedMeetsRow.holds Tryz.pinned (OpenSpec.ofChange typedMeetsSpec)

/-- ITS FALSE NEIGHBOUR: 'it returns false'. Refute it at one input. -/
def typedMeetsWrong : ChangeSpec := { name := "typedMeets", fn := fun _ => fun
  | [d1, d2] => { results := [.lit (.bool false)], args := [d1, d2] }
  | _ => none }
def TypedMeetsWrongFalsely : Prop := typedMeetsRow.holds Tryz.pinned (OpenSpec.ofChange typedMeetsWrong)

/- THE SECOND FORM. 'bulk': how many values and letters a reading holds, each counted each time it is reached (what is shared counts as often as it is met; a slice's spare places count too). A statement '..UptoSaid' is the law's where the arguments, and the package variables that the reading takes, are together of bulk at most 1048576: NARROWER than '..Said'. Prove '..Said' where nothing that the law and all that it calls make is longer than what came in: it says more and counts as full. Else prove '..UptoSaid'. A law counts once. -/
mutual
def uptoBulk {H : Type} : DataW H → Nat
  | .lit (.string bytes) => bytes.length + 1
  | .lit _ => 1
  | .nil => 1
  | .ptr d => uptoBulk d + 1
  | .slice elems spare => uptoBulkAll elems + uptoBulkAll spare + 1
  | .agg parts => uptoBulkAll parts + 1
  | .iface _ d => uptoBulk d + 1
  | .map entries => uptoBulkEntries entries + 1
  | .held _ => 1
def uptoBulkAll {H : Type} : List (DataW H) → Nat
  | [] => 0
  | d :: r => uptoBulk d + uptoBulkAll r
def uptoBulkEntries {H : Type} : List (Lit × DataW H) → Nat
  | [] => 0
  | x :: r => uptoBulkEntry x + uptoBulkEntries r
def uptoBulkEntry {H : Type} : Lit × DataW H → Nat
  | (.string bytes, d) => bytes.length + uptoBulk d + 1
  | (_, d) => uptoBulk d + 1
 end
def uptoSmall : (H : Type) → List (DataW H) → Bool := fun _ ds => decide (uptoBulkAll ds ≤ 1048576)
def OpenSpec.upto (s : _root_.Go.ChangeSpec) : _root_.Go.OpenSpec := { _root_.Go.OpenSpec.ofChange s with cond := some uptoSmall }

/-- 'grammarlablaw14.TypedChecks', WHERE WHAT IT READS IS OF BULK AT MOST 1048576: true; the input reads as it did. -/
def typedChecksUptoRow : OpenClaim := { program := "ytdapahgnpbehbaagreat", sum := "4e7cde6016c4a3841f536760931629b30695337618a41c518bc48a181513c6f9", func := "grammarlab/grammarlablaw14.TypedChecks", spec := "typedChecks", unfollowed := true, recurses := true, apart := false, narrowed := true }
def TypedChecksUptoSaid : Prop := typedChecksUptoRow.holds Tryz.pinned (OpenSpec.upto typedChecksSpec)

/-- 'grammarlablaw14.TypedInfers', WHERE WHAT IT READS IS OF BULK AT MOST 1048576: true; the input reads as it did. -/
def typedInfersUptoRow : OpenClaim := { program := "ytdapahgnpbehbaagreat", sum := "4e7cde6016c4a3841f536760931629b30695337618a41c518bc48a181513c6f9", func := "grammarlab/grammarlablaw14.TypedInfers", spec := "typedInfers", unfollowed := true, recurses := true, apart := false, narrowed := true }
def TypedInfersUptoSaid : Prop := typedInfersUptoRow.holds Tryz.pinned (OpenSpec.upto typedInfersSpec)

/-- 'grammarlablaw14.TypedTotals', WHERE WHAT IT READS IS OF BULK AT MOST 1048576: true; the input reads as it did. -/
def typedTotalsUptoRow : OpenClaim := { program := "ytdapahgnpbehbaagreat", sum := "4e7cde6016c4a3841f536760931629b30695337618a41c518bc48a181513c6f9", func := "grammarlab/grammarlablaw14.TypedTotals", spec := "typedTotals", unfollowed := true, recurses := true, apart := false, narrowed := true }
def TypedTotalsUptoSaid : Prop := typedTotalsUptoRow.holds Tryz.pinned (OpenSpec.upto typedTotalsSpec)

/-- 'grammarlablaw14.TypedLeast', WHERE WHAT IT READS IS OF BULK AT MOST 1048576: true; the input reads as it did. -/
def typedLeastUptoRow : OpenClaim := { program := "ytdapahgnpbehbaagreat", sum := "4e7cde6016c4a3841f536760931629b30695337618a41c518bc48a181513c6f9", func := "grammarlab/grammarlablaw14.TypedLeast", spec := "typedLeast", unfollowed := true, recurses := true, apart := false, narrowed := true }
def TypedLeastUptoSaid : Prop := typedLeastUptoRow.holds Tryz.pinned (OpenSpec.upto typedLeastSpec)

/-- 'grammarlablaw14.TypedFull', WHERE WHAT IT READS IS OF BULK AT MOST 1048576: true; the input reads as it did. -/
def typedFullUptoRow : OpenClaim := { program := "ytdapahgnpbehbaagreat", sum := "4e7cde6016c4a3841f536760931629b30695337618a41c518bc48a181513c6f9", func := "grammarlab/grammarlablaw14.TypedFull", spec := "typedFull", unfollowed := true, recurses := true, apart := false, narrowed := true }
def TypedFullUptoSaid : Prop := typedFullUptoRow.holds Tryz.pinned (OpenSpec.upto typedFullSpec)

/-- 'grammarlablaw14.TypedUnifies', WHERE WHAT IT READS IS OF BULK AT MOST 1048576: true; the input reads as it did. -/
def typedUnifiesUptoRow : OpenClaim := { program := "ytdapahgnpbehbaagreat", sum := "4e7cde6016c4a3841f536760931629b30695337618a41c518bc48a181513c6f9", func := "grammarlab/grammarlablaw14.TypedUnifies", spec := "typedUnifies", unfollowed := true, recurses := true, apart := false, narrowed := true }
def TypedUnifiesUptoSaid : Prop := typedUnifiesUptoRow.holds Tryz.pinned (OpenSpec.upto typedUnifiesSpec)

/-- 'grammarlablaw14.TypedLaws', WHERE WHAT IT READS IS OF BULK AT MOST 1048576: true; the input reads as it did. -/
def typedLawsUptoRow : OpenClaim := { program := "ytdapahgnpbehbaagreat", sum := "4e7cde6016c4a3841f536760931629b30695337618a41c518bc48a181513c6f9", func := "grammarlab/grammarlablaw14.TypedLaws", spec := "typedLaws", unfollowed := true, recurses := true, apart := false, narrowed := true }
def TypedLawsUptoSaid : Prop := typedLawsUptoRow.holds Tryz.pinned (OpenSpec.upto typedLawsSpec)

/-- 'grammarlablaw14.TypedPlaces', WHERE WHAT IT READS IS OF BULK AT MOST 1048576: true; the input reads as it did. -/
def typedPlacesUptoRow : OpenClaim := { program := "ytdapahgnpbehbaagreat", sum := "4e7cde6016c4a3841f536760931629b30695337618a41c518bc48a181513c6f9", func := "grammarlab/grammarlablaw14.TypedPlaces", spec := "typedPlaces", unfollowed := true, recurses := true, apart := false, narrowed := true }
def TypedPlacesUptoSaid : Prop := typedPlacesUptoRow.holds Tryz.pinned (OpenSpec.upto typedPlacesSpec)

/-- 'grammarlablaw14.TypedMeets', WHERE WHAT IT READS IS OF BULK AT MOST 1048576: true; the input reads as it did. -/
def typedMeetsUptoRow : OpenClaim := { program := "ytdapahgnpbehbaagreat", sum := "4e7cde6016c4a3841f536760931629b30695337618a41c518bc48a181513c6f9", func := "grammarlab/grammarlablaw14.TypedMeets", spec := "typedMeets", unfollowed := true, recurses := true, apart := false, narrowed := true }
def TypedMeetsUptoSaid : Prop := typedMeetsUptoRow.holds Tryz.pinned (OpenSpec.upto typedMeetsSpec)

end Rows
end Go.Proofs.YtdapahgnpbehbaaGreat

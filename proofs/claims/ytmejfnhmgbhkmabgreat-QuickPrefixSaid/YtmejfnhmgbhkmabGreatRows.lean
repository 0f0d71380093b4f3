/-
  No cell of these rows narrows 'for every input' (looked for: loops, veiled, ifaces, maps, wideKeys, modest, calm, conditions, laid).
  DERIVED. THE GIVEN ROWS OF THIS SEAT. 7 by the template 'for every input the law returns true; each argument reads behind the call as it read before'; 0 by the template 'total and deterministic' (their statements: YtmejfnhmgbhkmabGreatTotals.lean).
  GIVEN WITH THE SEED: the statements are not yours to turn. If you find one false, say at which input.
  Laid BY PROGRAM, IN A SANDBOX (cutbox-rows.mjs): the forced cells as the released guide's own fill.sh prints them over the translation 2d9dc3c38a274596… (all of the seat's roots in one cut). By AI agents, Wed Nov 11 2026. No macro, syntax, notation, axiom, sorry.
-/
import Derived.Test.YtmejfnhmgbhkmabGreatChecked
import GoSem.Claim
import GoSem.ClaimJoined
import GoSem.ClaimMapViews
import Derived.JoinedTies
import Derived.KernelRfl
namespace Go.Proofs.YtmejfnhmgbhkmabGreat
/- THE CELL 'sum', in the pinned program and in every row, IS THE sha256 OF THE DUMP (.gsa) THAT YtmejfnhmgbhkmabGreatProg.lean LOADS. Nothing in Lean hashes anything: it is a label: what it is worth is what the hold of that sum in a sandbox is worth. -/
noncomputable def Tryz.pinned : Pinned := { name := "ytmejfnhmgbhkmabgreat", sum := "2d9dc3c38a274596c6d23f23233bc2aa1ddedaf2fd178cf85ccae09530fe1aa9", checked := Tryz.checked }
namespace Rows
def none {H : Type} : Left H := { results := [], args := [] }

/-- 'grammarlablaw16.QuickVectors': WHATEVER THE INPUT: true; the input reads as it did. -/
def quickVectorsSpec : ChangeSpec := { name := "quickVectors", fn := fun _ => fun
  | [d1, d2] => { results := [.lit (.bool true)], args := [d1, d2] }
  | _ => none }
def quickVectorsRow : OpenClaim := { program := "ytmejfnhmgbhkmabgreat", sum := "2d9dc3c38a274596c6d23f23233bc2aa1ddedaf2fd178cf85ccae09530fe1aa9", func := "grammarlab/grammarlablaw16.QuickVectors", spec := "quickVectors", unfollowed := true, recurses := true, apart := false }
def QuickVectorsSaid : Prop := quickVectorsRow.holds Tryz.pinned (OpenSpec.ofChange quickVectorsSpec)

/-- ITS FALSE NEIGHBOUR: 'it returns false'. Refute it at one input. -/
def quickVectorsWrong : ChangeSpec := { name := "quickVectors", fn := fun _ => fun
  | [d1, d2] => { results := [.lit (.bool false)], args := [d1, d2] }
  | _ => none }
def QuickVectorsWrongFalsely : Prop := quickVectorsRow.holds Tryz.pinned (OpenSpec.ofChange quickVectorsWrong)

/-- 'grammarlablaw16.QuickFits': WHATEVER THE INPUT: true; the input reads as it did. -/
def quickFitsSpec : ChangeSpec := { name := "quickFits", fn := fun _ => fun
  | [d1, d2, d3] => { results := [.lit (.bool true)], args := [d1, d2, d3] }
  | _ => none }
def quickFitsRow : OpenClaim := { program := "ytmejfnhmgbhkmabgreat", sum := "2d9dc3c38a274596c6d23f23233bc2aa1ddedaf2fd178cf85ccae09530fe1aa9", func := "grammarlab/grammarlablaw16.QuickFits", spec := "quickFits", unfollowed := true, recurses := true, apart := false }
def QuickFitsSaid : Prop := quickFitsRow.holds Tryz.pinned (OpenSpec.ofChange quickFitsSpec)

/-- ITS FALSE NEIGHBOUR: 'it returns false'. Refute it at one input. -/
def quickFitsWrong : ChangeSpec := { name := "quickFits", fn := fun _ => fun
  | [d1, d2, d3] => { results := [.lit (.bool false)], args := [d1, d2, d3] }
  | _ => none }
def QuickFitsWrongFalsely : Prop := quickFitsRow.holds Tryz.pinned (OpenSpec.ofChange quickFitsWrong)

/-- 'grammarlablaw16.QuickClashes': WHATEVER THE INPUT: true; the input reads as it did. -/
def quickClashesSpec : ChangeSpec := { name := "quickClashes", fn := fun _ => fun
  | [d1, d2, d3] => { results := [.lit (.bool true)], args := [d1, d2, d3] }
  | _ => none }
def quickClashesRow : OpenClaim := { program := "ytmejfnhmgbhkmabgreat", sum := "2d9dc3c38a274596c6d23f23233bc2aa1ddedaf2fd178cf85ccae09530fe1aa9", func := "grammarlab/grammarlablaw16.QuickClashes", spec := "quickClashes", unfollowed := true, recurses := true, apart := false }
def QuickClashesSaid : Prop := quickClashesRow.holds Tryz.pinned (OpenSpec.ofChange quickClashesSpec)

/-- ITS FALSE NEIGHBOUR: 'it returns false'. Refute it at one input. -/
def quickClashesWrong : ChangeSpec := { name := "quickClashes", fn := fun _ => fun
  | [d1, d2, d3] => { results := [.lit (.bool false)], args := [d1, d2, d3] }
  | _ => none }
def QuickClashesWrongFalsely : Prop := quickClashesRow.holds Tryz.pinned (OpenSpec.ofChange quickClashesWrong)

/-- 'grammarlablaw16.QuickTrains': WHATEVER THE INPUT: true; the input reads as it did. -/
def quickTrainsSpec : ChangeSpec := { name := "quickTrains", fn := fun _ => fun
  | [d1, d2, d3] => { results := [.lit (.bool true)], args := [d1, d2, d3] }
  | _ => none }
def quickTrainsRow : OpenClaim := { program := "ytmejfnhmgbhkmabgreat", sum := "2d9dc3c38a274596c6d23f23233bc2aa1ddedaf2fd178cf85ccae09530fe1aa9", func := "grammarlab/grammarlablaw16.QuickTrains", spec := "quickTrains", unfollowed := true, recurses := true, apart := false }
def QuickTrainsSaid : Prop := quickTrainsRow.holds Tryz.pinned (OpenSpec.ofChange quickTrainsSpec)

/-- ITS FALSE NEIGHBOUR: 'it returns false'. Refute it at one input. -/
def quickTrainsWrong : ChangeSpec := { name := "quickTrains", fn := fun _ => fun
  | [d1, d2, d3] => { results := [.lit (.bool false)], args := [d1, d2, d3] }
  | _ => none }
def QuickTrainsWrongFalsely : Prop := quickTrainsRow.holds Tryz.pinned (OpenSpec.ofChange quickTrainsWrong)

/-- 'grammarlablaw16.QuickPrefix': WHATEVER THE INPUT: true; the input reads as it did. -/
def quickPrefixSpec : ChangeSpec := { name := "quickPrefix", fn := fun _ => fun
  | [d1, d2, d3] => { results := [.lit (.bool true)], args := [d1, d2, d3] }
  | _ => none }
def quickPrefixRow : OpenClaim := { program := "ytmejfnhmgbhkmabgreat", sum := "2d9dc3c38a274596c6d23f23233bc2aa1ddedaf2fd178cf85ccae09530fe1aa9", func := "grammarlab/grammarlablaw16.QuickPrefix", spec := "quickPrefix", unfollowed := true, recurses := true, apart := false }
def QuickPrefixSaid : Prop := quickPrefixRow.holds Tryz.pinned (OpenSpec.ofChange quickPrefixSpec)

/-- ITS FALSE NEIGHBOUR: 'it returns false'. Refute it at one input. -/
def quickPrefixWrong : ChangeSpec := { name := "quickPrefix", fn := fun _ => fun
  | [d1, d2, d3] => { results := [.lit (.bool false)], args := [d1, d2, d3] }
  | _ => none }
def QuickPrefixWrongFalsely : Prop := quickPrefixRow.holds Tryz.pinned (OpenSpec.ofChange quickPrefixWrong)

/-- 'grammarlablaw16.QuickAgrees': WHATEVER THE INPUT: true; the input reads as it did. -/
def quickAgreesSpec : ChangeSpec := { name := "quickAgrees", fn := fun _ => fun
  | [d1, d2, d3] => { results := [.lit (.bool true)], args := [d1, d2, d3] }
  | _ => none }
def quickAgreesRow : OpenClaim := { program := "ytmejfnhmgbhkmabgreat", sum := "2d9dc3c38a274596c6d23f23233bc2aa1ddedaf2fd178cf85ccae09530fe1aa9", func := "grammarlab/grammarlablaw16.QuickAgrees", spec := "quickAgrees", unfollowed := true, recurses := true, apart := false }
def QuickAgreesSaid : Prop := quickAgreesRow.holds Tryz.pinned (OpenSpec.ofChange quickAgreesSpec)

/-- ITS FALSE NEIGHBOUR: 'it returns false'. Refute it at one input. -/
def quickAgreesWrong : ChangeSpec := { name := "quickAgrees", fn := fun _ => fun
  | [d1, d2, d3] => { results := [.lit (.bool false)], args := [d1, d2, d3] }
  | _ => none }
def QuickAgreesWrongFalsely : Prop := quickAgreesRow.holds Tryz.pinned (OpenSpec.ofChange quickAgreesWrong)

/-- 'grammarlablaw16.QuickSound': WHATEVER THE INPUT: true; the input reads as it did. -/
def quickSoundSpec : ChangeSpec := { name := "quickSound", fn := fun _ => fun
  | [d] => { results := [.lit (.bool true)], args := [d] }
  | _ => none }
def quickSoundRow : OpenClaim := { program := "ytmejfnhmgbhkmabgreat", sum := "2d9dc3c38a274596c6d23f23233bc2aa1ddedaf2fd178cf85ccae09530fe1aa9", func := "grammarlab/grammarlablaw16.QuickSound", spec := "quickSound", unfollowed := true, recurses := true, apart := false }
def QuickSoundSaid : Prop := quickSoundRow.holds Tryz.pinned (OpenSpec.ofChange quickSoundSpec)

/-- ITS FALSE NEIGHBOUR: 'it returns false'. Refute it at one input. -/
def quickSoundWrong : ChangeSpec := { name := "quickSound", fn := fun _ => fun
  | [d] => { results := [.lit (.bool false)], args := [d] }
  | _ => none }
def QuickSoundWrongFalsely : Prop := quickSoundRow.holds Tryz.pinned (OpenSpec.ofChange quickSoundWrong)

/- THE SECOND FORM. 'bulk': how many values and letters a reading holds, each counted each time it is reached (what is shared counts as often as it is met; a slice's spare places count too). A statement '..UptoSaid' is the law's where the arguments, and the package variables that the reading takes, are together of bulk at most 1048576: NARROWER than '..Said'. Prove '..Said' where nothing that the law and all that it calls make is longer than what came in: it says more and counts as full. Else prove '..UptoSaid'. A law counts once. -/
mutual
def uptoBulk {H : Type} : DataW H → Nat
  | .lit (.string bytes) => bytes.length + 1
  | .lit _ => 1
  | .nil => 1
  | .ptr d => uptoBulk d + 1
  | .slice elems spare => uptoBulkAll elems + uptoBulkAll spare + 1
  | .agg parts => uptoBulkAll parts + 1
  | .iface _ d => uptoBulk d + 1
  | .map entries => uptoBulkEntries entries + 1
  | .held _ => 1
def uptoBulkAll {H : Type} : List (DataW H) → Nat
  | [] => 0
  | d :: r => uptoBulk d + uptoBulkAll r
def uptoBulkEntries {H : Type} : List (Lit × DataW H) → Nat
  | [] => 0
  | x :: r => uptoBulkEntry x + uptoBulkEntries r
def uptoBulkEntry {H : Type} : Lit × DataW H → Nat
  | (.string bytes, d) => bytes.length + uptoBulk d + 1
  | (_, d) => uptoBulk d + 1
 end
def uptoSmall : (H : Type) → List (DataW H) → Bool := fun _ ds => decide (uptoBulkAll ds ≤ 1048576)
def OpenSpec.upto (s : _root_.Go.ChangeSpec) : _root_.Go.OpenSpec := { _root_.Go.OpenSpec.ofChange s with cond := some uptoSmall }

/-- 'grammarlablaw16.QuickVectors', WHERE WHAT IT READS IS OF BULK AT MOST 1048576: true; the input reads as it did. -/
def quickVectorsUptoRow : OpenClaim := { program := "ytmejfnhmgbhkmabgreat", sum := "2d9dc3c38a274596c6d23f23233bc2aa1ddedaf2fd178cf85ccae09530fe1aa9", func := "grammarlab/grammarlablaw16.QuickVectors", spec := "quickVectors", unfollowed := true, recurses := true, apart := false, narrowed := true }
def QuickVectorsUptoSaid : Prop := quickVectorsUptoRow.holds Tryz.pinned (OpenSpec.upto quickVectorsSpec)

/-- 'grammarlablaw16.QuickFits', WHERE WHAT IT READS IS OF BULK AT MOST 1048576: true; the input reads as it did. -/
def quickFitsUptoRow : OpenClaim := { program := "ytmejfnhmgbhkmabgreat", sum := "2d9dc3c38a274596c6d23f23233bc2aa1ddedaf2fd178cf85ccae09530fe1aa9", func := "grammarlab/grammarlablaw16.QuickFits", spec := "quickFits", unfollowed := true, recurses := true, apart := false, narrowed := true }
def QuickFitsUptoSaid : Prop := quickFitsUptoRow.holds Tryz.pinned (OpenSpec.upto quickFitsSpec)

/-- 'grammarlablaw16.QuickClashes', WHERE WHAT IT READS IS OF BULK AT MOST 1048576: true; the input reads as it did. -/
def quickClashesUptoRow : OpenClaim := { program := "ytmejfnhmgbhkmabgreat", sum := "2d9dc3c38a274596c6d23f23233bc2aa1ddedaf2fd178cf85ccae09530fe1aa9", func := "grammarlab/grammarlablaw16.QuickClashes", spec := "quickClashes", unfollowed := true, recurses := true, apart := false, narrowed := true }
def QuickClashesUptoSaid : Prop := quickClashesUptoRow.holds Tryz.pinned (OpenSpec.upto quickClashesSpec)

/-- 'grammarlablaw16.QuickTrains', WHERE WHAT IT READS IS OF BULK AT MOST 1048576: true; the input reads as it did. -/
def quickTrainsUptoRow : OpenClaim := { program := "ytmejfnhmgbhkmabgreat", sum := "2d9dc3c38a274596c6d23f23233bc2aa1ddedaf2fd178cf85ccae09530fe1aa9", func := "grammarlab/grammarlablaw16.QuickTrains", spec := "quickTrains", unfollowed := true, recurses := true, apart := false, narrowed := true }
def QuickTrainsUptoSaid : Prop := quickTrainsUptoRow.holds Tryz.pinned (OpenSpec.upto quickTrainsSpec)

/-- 'grammarlablaw16.QuickPrefix', WHERE WHAT IT READS IS OF BULK AT MOST 1048576: true; the input reads as it did. -/
def quickPrefixUptoRow : OpenClaim := { program := "ytmejfnhmgbhkmabgreat", sum := "2d9dc3c38a274596c6d23f23233bc2aa1ddedaf2fd178cf85ccae09530fe1aa9", func := "grammarlab/grammarlablaw16.QuickPrefix", spec := "quickPrefix", unfollowed := true, recurses := true, apart := false, narrowed := true }
def QuickPrefixUptoSaid : Prop := quickPrefixUptoRow.holds Tryz.pinned (OpenSpec.upto quickPrefixSpec)

/-- 'grammarlablaw16.QuickAgrees', WHERE WHAT IT READS IS OF BULK AT MOST 1048576: true; the input reads as it did. -/
def quickAgreesUptoRow : OpenClaim := { program := "ytmejfnhmgbhkmabgreat", sum := "2d9dc3c38a274596c6d23f23233bc2aa1ddedaf2fd178cf85ccae09530fe1aa9", func := "grammarlab/grammarlablaw16.QuickAgrees", spec := "quickAgrees", unfollowed := true, recurses := true, apart := false, narrowed := true }
def QuickAgreesUptoSaid : Prop := quickAgreesUptoRow.holds Tryz.pinned (OpenSpec.upto quickAgreesSpec)

/-- 'grammarlablaw16.QuickSound', WHERE WHAT IT READS IS OF BULK AT MOST 1048576: true; the input reads as it did. -/
def quickSoundUptoRow : OpenClaim := { program := "ytmejfnhmgbhkmabgreat", sum := "2d9dc3c38a274596c6d23f23233bc2aa1ddedaf2fd178cf85ccae09530fe1aa9", func := "grammarlab/grammarlablaw16.QuickSound", spec := "quickSound", unfollowed := true, recurses := true, apart := false, narrowed := true }
def QuickSoundUptoSaid : Prop := quickSoundUptoRow.holds Tryz.pinned (OpenSpec.upto quickSoundSpec)

end Rows
end Go.Proofs.YtmejfnhmgbhkmabGreat

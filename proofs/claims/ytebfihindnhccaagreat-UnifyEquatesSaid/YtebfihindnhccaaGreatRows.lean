/-
  No cell of these rows narrows 'for every input' (looked for: loops, veiled, ifaces, maps, wideKeys, modest, calm, conditions, laid).
  DERIVED. THE GIVEN ROWS OF THIS SEAT. 12 by the template 'for every input the law returns true; each argument reads behind the call as it read before'; 0 by the template 'total and deterministic' (their statements: YtebfihindnhccaaGreatTotals.lean).
  GIVEN WITH THE SEED: the statements are not yours to turn. If you find one false, say at which input.
  Laid BY PROGRAM, IN A SANDBOX (cutbox-rows.mjs): the forced cells as the released guide's own fill.sh prints them over the translation 26f83f8b11ad579c… (all of the seat's roots in one cut). By AI agents, Wed Nov 11 2026. No macro, syntax, notation, axiom, sorry.
-/
import Derived.Test.YtebfihindnhccaaGreatChecked
import GoSem.Claim
import GoSem.ClaimJoined
import GoSem.ClaimMapViews
import Derived.JoinedTies
import Derived.KernelRfl
namespace Go.Proofs.YtebfihindnhccaaGreat
/- THE CELL 'sum', in the pinned program and in every row, IS THE sha256 OF THE DUMP (.gsa) THAT YtebfihindnhccaaGreatProg.lean LOADS. Nothing in Lean hashes anything: it is a label: what it is worth is what the hold of that sum in a sandbox is worth. -/
noncomputable def Tryz.pinned : Pinned := { name := "ytebfihindnhccaagreat", sum := "26f83f8b11ad579c2840a0032bf3c4436a8d958100a3ed9846f1339c7e8c56c4", checked := Tryz.checked }
namespace Rows
def none {H : Type} : Left H := { results := [], args := [] }

/-- 'grammarlablaw11.UnifyMakes': WHATEVER THE INPUT: true; the input reads as it did. -/
def unifyMakesSpec : ChangeSpec := { name := "unifyMakes", fn := fun _ => fun
  | [d1, d2, d3] => { results := [.lit (.bool true)], args := [d1, d2, d3] }
  | _ => none }
def unifyMakesRow : OpenClaim := { program := "ytebfihindnhccaagreat", sum := "26f83f8b11ad579c2840a0032bf3c4436a8d958100a3ed9846f1339c7e8c56c4", func := "grammarlab/grammarlablaw11.UnifyMakes", spec := "unifyMakes", unfollowed := true, recurses := true, plainKeys := false, apart := false }
def UnifyMakesSaid : Prop := unifyMakesRow.holds Tryz.pinned (OpenSpec.ofChange unifyMakesSpec)

/-- ITS FALSE NEIGHBOUR: 'it returns false'. Refute it at one input. -/
def unifyMakesWrong : ChangeSpec := { name := "unifyMakes", fn := fun _ => fun
  | [d1, d2, d3] => { results := [.lit (.bool false)], args := [d1, d2, d3] }
  | _ => none }
def UnifyMakesWrongFalsely : Prop := unifyMakesRow.holds Tryz.pinned (OpenSpec.ofChange unifyMakesWrong)

/-- 'grammarlablaw11.UnifyLists': WHATEVER THE INPUT: true; the input reads as it did. -/
def unifyListsSpec : ChangeSpec := { name := "unifyLists", fn := fun _ => fun
  | [d1, d2] => { results := [.lit (.bool true)], args := [d1, d2] }
  | _ => none }
def unifyListsRow : OpenClaim := { program := "ytebfihindnhccaagreat", sum := "26f83f8b11ad579c2840a0032bf3c4436a8d958100a3ed9846f1339c7e8c56c4", func := "grammarlab/grammarlablaw11.UnifyLists", spec := "unifyLists", unfollowed := true, recurses := true, plainKeys := false, apart := false }
def UnifyListsSaid : Prop := unifyListsRow.holds Tryz.pinned (OpenSpec.ofChange unifyListsSpec)

/-- ITS FALSE NEIGHBOUR: 'it returns false'. Refute it at one input. -/
def unifyListsWrong : ChangeSpec := { name := "unifyLists", fn := fun _ => fun
  | [d1, d2] => { results := [.lit (.bool false)], args := [d1, d2] }
  | _ => none }
def UnifyListsWrongFalsely : Prop := unifyListsRow.holds Tryz.pinned (OpenSpec.ofChange unifyListsWrong)

/-- 'grammarlablaw11.UnifyEquates': WHATEVER THE INPUT: true; the input reads as it did. -/
def unifyEquatesSpec : ChangeSpec := { name := "unifyEquates", fn := fun _ => fun
  | [d1, d2, d3] => { results := [.lit (.bool true)], args := [d1, d2, d3] }
  | _ => none }
def unifyEquatesRow : OpenClaim := { program := "ytebfihindnhccaagreat", sum := "26f83f8b11ad579c2840a0032bf3c4436a8d958100a3ed9846f1339c7e8c56c4", func := "grammarlab/grammarlablaw11.UnifyEquates", spec := "unifyEquates", unfollowed := true, recurses := true, plainKeys := false, apart := false }
def UnifyEquatesSaid : Prop := unifyEquatesRow.holds Tryz.pinned (OpenSpec.ofChange unifyEquatesSpec)

/-- ITS FALSE NEIGHBOUR: 'it returns false'. Refute it at one input. -/
def unifyEquatesWrong : ChangeSpec := { name := "unifyEquates", fn := fun _ => fun
  | [d1, d2, d3] => { results := [.lit (.bool false)], args := [d1, d2, d3] }
  | _ => none }
def UnifyEquatesWrongFalsely : Prop := unifyEquatesRow.holds Tryz.pinned (OpenSpec.ofChange unifyEquatesWrong)

/-- 'grammarlablaw16.QuickVectors': WHATEVER THE INPUT: true; the input reads as it did. -/
def quickVectorsSpec : ChangeSpec := { name := "quickVectors", fn := fun _ => fun
  | [d1, d2] => { results := [.lit (.bool true)], args := [d1, d2] }
  | _ => none }
def quickVectorsRow : OpenClaim := { program := "ytebfihindnhccaagreat", sum := "26f83f8b11ad579c2840a0032bf3c4436a8d958100a3ed9846f1339c7e8c56c4", func := "grammarlab/grammarlablaw16.QuickVectors", spec := "quickVectors", unfollowed := true, recurses := true, plainKeys := false, apart := false }
def QuickVectorsSaid : Prop := quickVectorsRow.holds Tryz.pinned (OpenSpec.ofChange quickVectorsSpec)

/-- ITS FALSE NEIGHBOUR: 'it returns false'. Refute it at one input. -/
def quickVectorsWrong : ChangeSpec := { name := "quickVectors", fn := fun _ => fun
  | [d1, d2] => { results := [.lit (.bool false)], args := [d1, d2] }
  | _ => none }
def QuickVectorsWrongFalsely : Prop := quickVectorsRow.holds Tryz.pinned (OpenSpec.ofChange quickVectorsWrong)

/-- 'grammarlablaw16.QuickFits': WHATEVER THE INPUT: true; the input reads as it did. -/
def quickFitsSpec : ChangeSpec := { name := "quickFits", fn := fun _ => fun
  | [d1, d2, d3] => { results := [.lit (.bool true)], args := [d1, d2, d3] }
  | _ => none }
def quickFitsRow : OpenClaim := { program := "ytebfihindnhccaagreat", sum := "26f83f8b11ad579c2840a0032bf3c4436a8d958100a3ed9846f1339c7e8c56c4", func := "grammarlab/grammarlablaw16.QuickFits", spec := "quickFits", unfollowed := true, recurses := true, plainKeys := false, apart := false }
def QuickFitsSaid : Prop := quickFitsRow.holds Tryz.pinned (OpenSpec.ofChange quickFitsSpec)

/-- ITS FALSE NEIGHBOUR: 'it returns false'. Refute it at one input. -/
def quickFitsWrong : ChangeSpec := { name := "quickFits", fn := fun _ => fun
  | [d1, d2, d3] => { results := [.lit (.bool false)], args := [d1, d2, d3] }
  | _ => none }
def QuickFitsWrongFalsely : Prop := quickFitsRow.holds Tryz.pinned (OpenSpec.ofChange quickFitsWrong)

/-- 'grammarlablaw16.QuickClashes': WHATEVER THE INPUT: true; the input reads as it did. -/
def quickClashesSpec : ChangeSpec := { name := "quickClashes", fn := fun _ => fun
  | [d1, d2, d3] => { results := [.lit (.bool true)], args := [d1, d2, d3] }
  | _ => none }
def quickClashesRow : OpenClaim := { program := "ytebfihindnhccaagreat", sum := "26f83f8b11ad579c2840a0032bf3c4436a8d958100a3ed9846f1339c7e8c56c4", func := "grammarlab/grammarlablaw16.QuickClashes", spec := "quickClashes", unfollowed := true, recurses := true, plainKeys := false, apart := false }
def QuickClashesSaid : Prop := quickClashesRow.holds Tryz.pinned (OpenSpec.ofChange quickClashesSpec)

/-- ITS FALSE NEIGHBOUR: 'it returns false'. Refute it at one input. -/
def quickClashesWrong : ChangeSpec := { name := "quickClashes", fn := fun _ => fun
  | [d1, d2, d3] => { results := [.lit (.bool false)], args := [d1, d2, d3] }
  | _ => none }
def QuickClashesWrongFalsely : Prop := quickClashesRow.holds Tryz.pinned (OpenSpec.ofChange quickClashesWrong)

/-- 'grammarlablaw16.QuickTrains': WHATEVER THE INPUT: true; the input reads as it did. -/
def quickTrainsSpec : ChangeSpec := { name := "quickTrains", fn := fun _ => fun
  | [d1, d2, d3] => { results := [.lit (.bool true)], args := [d1, d2, d3] }
  | _ => none }
def quickTrainsRow : OpenClaim := { program := "ytebfihindnhccaagreat", sum := "26f83f8b11ad579c2840a0032bf3c4436a8d958100a3ed9846f1339c7e8c56c4", func := "grammarlab/grammarlablaw16.QuickTrains", spec := "quickTrains", unfollowed := true, recurses := true, plainKeys := false, apart := false }
def QuickTrainsSaid : Prop := quickTrainsRow.holds Tryz.pinned (OpenSpec.ofChange quickTrainsSpec)

/-- ITS FALSE NEIGHBOUR: 'it returns false'. Refute it at one input. -/
def quickTrainsWrong : ChangeSpec := { name := "quickTrains", fn := fun _ => fun
  | [d1, d2, d3] => { results := [.lit (.bool false)], args := [d1, d2, d3] }
  | _ => none }
def QuickTrainsWrongFalsely : Prop := quickTrainsRow.holds Tryz.pinned (OpenSpec.ofChange quickTrainsWrong)

/-- 'grammarlablaw16.QuickPrefix': WHATEVER THE INPUT: true; the input reads as it did. -/
def quickPrefixSpec : ChangeSpec := { name := "quickPrefix", fn := fun _ => fun
  | [d1, d2, d3] => { results := [.lit (.bool true)], args := [d1, d2, d3] }
  | _ => none }
def quickPrefixRow : OpenClaim := { program := "ytebfihindnhccaagreat", sum := "26f83f8b11ad579c2840a0032bf3c4436a8d958100a3ed9846f1339c7e8c56c4", func := "grammarlab/grammarlablaw16.QuickPrefix", spec := "quickPrefix", unfollowed := true, recurses := true, plainKeys := false, apart := false }
def QuickPrefixSaid : Prop := quickPrefixRow.holds Tryz.pinned (OpenSpec.ofChange quickPrefixSpec)

/-- ITS FALSE NEIGHBOUR: 'it returns false'. Refute it at one input. -/
def quickPrefixWrong : ChangeSpec := { name := "quickPrefix", fn := fun _ => fun
  | [d1, d2, d3] => { results := [.lit (.bool false)], args := [d1, d2, d3] }
  | _ => none }
def QuickPrefixWrongFalsely : Prop := quickPrefixRow.holds Tryz.pinned (OpenSpec.ofChange quickPrefixWrong)

/-- 'grammarlablaw16.QuickAgrees': WHATEVER THE INPUT: true; the input reads as it did. -/
def quickAgreesSpec : ChangeSpec := { name := "quickAgrees", fn := fun _ => fun
  | [d1, d2, d3] => { results := [.lit (.bool true)], args := [d1, d2, d3] }
  | _ => none }
def quickAgreesRow : OpenClaim := { program := "ytebfihindnhccaagreat", sum := "26f83f8b11ad579c2840a0032bf3c4436a8d958100a3ed9846f1339c7e8c56c4", func := "grammarlab/grammarlablaw16.QuickAgrees", spec := "quickAgrees", unfollowed := true, recurses := true, plainKeys := false, apart := false }
def QuickAgreesSaid : Prop := quickAgreesRow.holds Tryz.pinned (OpenSpec.ofChange quickAgreesSpec)

/-- ITS FALSE NEIGHBOUR: 'it returns false'. Refute it at one input. -/
def quickAgreesWrong : ChangeSpec := { name := "quickAgrees", fn := fun _ => fun
  | [d1, d2, d3] => { results := [.lit (.bool false)], args := [d1, d2, d3] }
  | _ => none }
def QuickAgreesWrongFalsely : Prop := quickAgreesRow.holds Tryz.pinned (OpenSpec.ofChange quickAgreesWrong)

/-- 'grammarlablaw16.QuickSound': WHATEVER THE INPUT: true; the input reads as it did. -/
def quickSoundSpec : ChangeSpec := { name := "quickSound", fn := fun _ => fun
  | [d] => { results := [.lit (.bool true)], args := [d] }
  | _ => none }
def quickSoundRow : OpenClaim := { program := "ytebfihindnhccaagreat", sum := "26f83f8b11ad579c2840a0032bf3c4436a8d958100a3ed9846f1339c7e8c56c4", func := "grammarlab/grammarlablaw16.QuickSound", spec := "quickSound", unfollowed := true, recurses := true, plainKeys := false, apart := false }
def QuickSoundSaid : Prop := quickSoundRow.holds Tryz.pinned (OpenSpec.ofChange quickSoundSpec)

/-- ITS FALSE NEIGHBOUR: 'it returns false'. Refute it at one input. -/
def quickSoundWrong : ChangeSpec := { name := "quickSound", fn := fun _ => fun
  | [d] => { results := [.lit (.bool false)], args := [d] }
  | _ => none }
def QuickSoundWrongFalsely : Prop := quickSoundRow.holds Tryz.pinned (OpenSpec.ofChange quickSoundWrong)

/-- 'grammarlablaw11.UnifyPlaces': WHATEVER THE INPUT: true; the input reads as it did. -/
def unifyPlacesSpec : ChangeSpec := { name := "unifyPlaces", fn := fun _ => fun
  | [d1, d2] => { results := [.lit (.bool true)], args := [d1, d2] }
  | _ => none }
def unifyPlacesRow : OpenClaim := { program := "ytebfihindnhccaagreat", sum := "26f83f8b11ad579c2840a0032bf3c4436a8d958100a3ed9846f1339c7e8c56c4", func := "grammarlab/grammarlablaw11.UnifyPlaces", spec := "unifyPlaces", unfollowed := true, recurses := true, plainKeys := false, apart := false }
def UnifyPlacesSaid : Prop := unifyPlacesRow.holds Tryz.pinned (OpenSpec.ofChange unifyPlacesSpec)

/-- ITS FALSE NEIGHBOUR: 'it returns false'. Refute it at one input. -/
def unifyPlacesWrong : ChangeSpec := { name := "unifyPlaces", fn := fun _ => fun
  | [d1, d2] => { results := [.lit (.bool false)], args := [d1, d2] }
  | _ => none }
def UnifyPlacesWrongFalsely : Prop := unifyPlacesRow.holds Tryz.pinned (OpenSpec.ofChange unifyPlacesWrong)

/-- 'grammarlablaw15.RestrictUnify': WHATEVER THE INPUT: true; the input reads as it did. -/
def restrictUnifySpec : ChangeSpec := { name := "restrictUnify", fn := fun _ => fun
  | [d] => { results := [.lit (.bool true)], args := [d] }
  | _ => none }
def restrictUnifyRow : OpenClaim := { program := "ytebfihindnhccaagreat", sum := "26f83f8b11ad579c2840a0032bf3c4436a8d958100a3ed9846f1339c7e8c56c4", func := "grammarlab/grammarlablaw15.RestrictUnify", spec := "restrictUnify", unfollowed := true, recurses := true, plainKeys := false, apart := false }
def RestrictUnifySaid : Prop := restrictUnifyRow.holds Tryz.pinned (OpenSpec.ofChange restrictUnifySpec)

/-- ITS FALSE NEIGHBOUR: 'it returns false'. Refute it at one input. -/
def restrictUnifyWrong : ChangeSpec := { name := "restrictUnify", fn := fun _ => fun
  | [d] => { results := [.lit (.bool false)], args := [d] }
  | _ => none }
def RestrictUnifyWrongFalsely : Prop := restrictUnifyRow.holds Tryz.pinned (OpenSpec.ofChange restrictUnifyWrong)

/- THE SECOND FORM. 'bulk': how many values and letters a reading holds, each counted each time it is reached (what is shared counts as often as it is met; a slice's spare places count too). A statement '..UptoSaid' is the law's where the arguments, and the package variables that the reading takes, are together of bulk at most 1048576: NARROWER than '..Said'. Prove '..Said' where nothing that the law and all that it calls make is longer than what came in: it says more and counts as full. Else prove '..UptoSaid'. A law counts once. -/
mutual
def uptoBulk {H : Type} : DataW H → Nat
  | .lit (.string bytes) => bytes.length + 1
  | .lit _ => 1
  | .nil => 1
  | .ptr d => uptoBulk d + 1
  | .slice elems spare => uptoBulkAll elems + uptoBulkAll spare + 1
  | .agg parts => uptoBulkAll parts + 1
  | .iface _ d => uptoBulk d + 1
  | .map entries => uptoBulkEntries entries + 1
  | .held _ => 1
def uptoBulkAll {H : Type} : List (DataW H) → Nat
  | [] => 0
  | d :: r => uptoBulk d + uptoBulkAll r
def uptoBulkEntries {H : Type} : List (Lit × DataW H) → Nat
  | [] => 0
  | x :: r => uptoBulkEntry x + uptoBulkEntries r
def uptoBulkEntry {H : Type} : Lit × DataW H → Nat
  | (.string bytes, d) => bytes.length + uptoBulk d + 1
  | (_, d) => uptoBulk d + 1
 end
def uptoSmall : (H : Type) → List (DataW H) → Bool := fun _ ds => decide (uptoBulkAll ds ≤ 1048576)
def OpenSpec.upto (s : _root_.Go.ChangeSpec) : _root_.Go.OpenSpec := { _root_.Go.OpenSpec.ofChange s with cond := some uptoSmall }

/-- 'grammarlablaw11.UnifyMakes', WHERE WHAT IT READS IS OF BULK AT MOST 1048576: true; the input reads as it did. -/
def unifyMakesUptoRow : OpenClaim := { program := "ytebfihindnhccaagreat", sum := "26f83f8b11ad579c2840a0032bf3c4436a8d958100a3ed9846f1339c7e8c56c4", func := "grammarlab/grammarlablaw11.UnifyMakes", spec := "unifyMakes", unfollowed := true, recurses := true, plainKeys := false, apart := false, narrowed := true }
def UnifyMakesUptoSaid : Prop := unifyMakesUptoRow.holds Tryz.pinned (OpenSpec.upto unifyMakesSpec)

/-- 'grammarlablaw11.UnifyLists', WHERE WHAT IT READS IS OF BULK AT MOST 1048576: true; the input reads as it did. -/
def unifyListsUptoRow : OpenClaim := { program := "ytebfihindnhccaagreat", sum := "26f83f8b11ad579c2840a0032bf3c4436a8d958100a3ed9846f1339c7e8c56c4", func := "grammarlab/grammarlablaw11.UnifyLists", spec := "unifyLists", unfollowed := true, recurses := true, plainKeys := false, apart := false, narrowed := true }
def UnifyListsUptoSaid : Prop := unifyListsUptoRow.holds Tryz.pinned (OpenSpec.upto unifyListsSpec)

/-- 'grammarlablaw11.UnifyEquates', WHERE WHAT IT READS IS OF BULK AT MOST 1048576: true; the input reads as it did. -/
def unifyEquatesUptoRow : OpenClaim := { program := "ytebfihindnhccaagreat", sum := "26f83f8b11ad579c2840a0032bf3c4436a8d958100a3ed9846f1339c7e8c56c4", func := "grammarlab/grammarlablaw11.UnifyEquates", spec := "unifyEquates", unfollowed := true, recurses := true, plainKeys := false, apart := false, narrowed := true }
def UnifyEquatesUptoSaid : Prop := unifyEquatesUptoRow.holds Tryz.pinned (OpenSpec.upto unifyEquatesSpec)

/-- 'grammarlablaw16.QuickVectors', WHERE WHAT IT READS IS OF BULK AT MOST 1048576: true; the input reads as it did. -/
def quickVectorsUptoRow : OpenClaim := { program := "ytebfihindnhccaagreat", sum := "26f83f8b11ad579c2840a0032bf3c4436a8d958100a3ed9846f1339c7e8c56c4", func := "grammarlab/grammarlablaw16.QuickVectors", spec := "quickVectors", unfollowed := true, recurses := true, plainKeys := false, apart := false, narrowed := true }
def QuickVectorsUptoSaid : Prop := quickVectorsUptoRow.holds Tryz.pinned (OpenSpec.upto quickVectorsSpec)

/-- 'grammarlablaw16.QuickFits', WHERE WHAT IT READS IS OF BULK AT MOST 1048576: true; the input reads as it did. -/
def quickFitsUptoRow : OpenClaim := { program := "ytebfihindnhccaagreat", sum := "26f83f8b11ad579c2840a0032bf3c4436a8d958100a3ed9846f1339c7e8c56c4", func := "grammarlab/grammarlablaw16.QuickFits", spec := "quickFits", unfollowed := true, recurses := true, plainKeys := false, apart := false, narrowed := true }
def QuickFitsUptoSaid : Prop := quickFitsUptoRow.holds Tryz.pinned (OpenSpec.upto quickFitsSpec)

/-- 'grammarlablaw16.QuickClashes', WHERE WHAT IT READS IS OF BULK AT MOST 1048576: true; the input reads as it did. -/
def quickClashesUptoRow : OpenClaim := { program := "ytebfihindnhccaagreat", sum := "26f83f8b11ad579c2840a0032bf3c4436a8d958100a3ed9846f1339c7e8c56c4", func := "grammarlab/grammarlablaw16.QuickClashes", spec := "quickClashes", unfollowed := true, recurses := true, plainKeys := false, apart := false, narrowed := true }
def QuickClashesUptoSaid : Prop := quickClashesUptoRow.holds Tryz.pinned (OpenSpec.upto quickClashesSpec)

/-- 'grammarlablaw16.QuickTrains', WHERE WHAT IT READS IS OF BULK AT MOST 1048576: true; the input reads as it did. -/
def quickTrainsUptoRow : OpenClaim := { program := "ytebfihindnhccaagreat", sum := "26f83f8b11ad579c2840a0032bf3c4436a8d958100a3ed9846f1339c7e8c56c4", func := "grammarlab/grammarlablaw16.QuickTrains", spec := "quickTrains", unfollowed := true, recurses := true, plainKeys := false, apart := false, narrowed := true }
def QuickTrainsUptoSaid : Prop := quickTrainsUptoRow.holds Tryz.pinned (OpenSpec.upto quickTrainsSpec)

/-- 'grammarlablaw16.QuickPrefix', WHERE WHAT IT READS IS OF BULK AT MOST 1048576: true; the input reads as it did. -/
def quickPrefixUptoRow : OpenClaim := { program := "ytebfihindnhccaagreat", sum := "26f83f8b11ad579c2840a0032bf3c4436a8d958100a3ed9846f1339c7e8c56c4", func := "grammarlab/grammarlablaw16.QuickPrefix", spec := "quickPrefix", unfollowed := true, recurses := true, plainKeys := false, apart := false, narrowed := true }
def QuickPrefixUptoSaid : Prop := quickPrefixUptoRow.holds Tryz.pinned (OpenSpec.upto quickPrefixSpec)

/-- 'grammarlablaw16.QuickAgrees', WHERE WHAT IT READS IS OF BULK AT MOST 1048576: true; the input reads as it did. -/
def quickAgreesUptoRow : OpenClaim := { program := "ytebfihindnhccaagreat", sum := "26f83f8b11ad579c2840a0032bf3c4436a8d958100a3ed9846f1339c7e8c56c4", func := "grammarlab/grammarlablaw16.QuickAgrees", spec := "quickAgrees", unfollowed := true, recurses := true, plainKeys := false, apart := false, narrowed := true }
def QuickAgreesUptoSaid : Prop := quickAgreesUptoRow.holds Tryz.pinned (OpenSpec.upto quickAgreesSpec)

/-- 'grammarlablaw16.QuickSound', WHERE WHAT IT READS IS OF BULK AT MOST 1048576: true; the input reads as it did. -/
def quickSoundUptoRow : OpenClaim := { program := "ytebfihindnhccaagreat", sum := "26f83f8b11ad579c2840a0032bf3c4436a8d958100a3ed9846f1339c7e8c56c4", func := "grammarlab/grammarlablaw16.QuickSound", spec := "quickSound", unfollowed := true, recurses := true, plainKeys := false, apart := false, narrowed := true }
def QuickSoundUptoSaid : Prop := quickSoundUptoRow.holds Tryz.pinned (OpenSpec.upto quickSoundSpec)

/-- 'grammarlablaw11.UnifyPlaces', WHERE WHAT IT READS IS OF BULK AT MOST 1048576: true; the input reads as it did. -/
def unifyPlacesUptoRow : OpenClaim := { program := "ytebfihindnhccaagreat", sum := "26f83f8b11ad579c2840a0032bf3c4436a8d958100a3ed9846f1339c7e8c56c4", func := "grammarlab/grammarlablaw11.UnifyPlaces", spec := "unifyPlaces", unfollowed := true, recurses := true, plainKeys := false, apart := false, narrowed := true }
def UnifyPlacesUptoSaid : Prop := unifyPlacesUptoRow.holds Tryz.pinned (OpenSpec.upto unifyPlacesSpec)

/-- 'grammarlablaw15.RestrictUnify', WHERE WHAT IT READS IS OF BULK AT MOST 1048576: true; the input reads as it did. -/
def restrictUnifyUptoRow : OpenClaim := { program := "ytebfihindnhccaagreat", sum := "26f83f8b11ad579c2840a0032bf3c4436a8d958100a3ed9846f1339c7e8c56c4", func := "grammarlab/grammarlablaw15.RestrictUnify", spec := "restrictUnify", unfollowed := true, recurses := true, plainKeys := false, apart := false, narrowed := true }
def RestrictUnifyUptoSaid : Prop := restrictUnifyUptoRow.holds Tryz.pinned (OpenSpec.upto restrictUnifySpec)

end Rows
end Go.Proofs.YtebfihindnhccaaGreat

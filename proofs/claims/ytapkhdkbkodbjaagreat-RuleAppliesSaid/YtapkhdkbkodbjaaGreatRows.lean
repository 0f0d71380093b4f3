/-
  No cell of these rows narrows 'for every input' (looked for: loops, veiled, ifaces, maps, wideKeys, modest, calm, conditions, laid).
  DERIVED. THE GIVEN ROWS OF THIS SEAT. 14 by the template 'for every input the law returns true; each argument reads behind the call as it read before'; 0 by the template 'total and deterministic' (their statements: YtapkhdkbkodbjaaGreatTotals.lean).
  GIVEN WITH THE SEED: the statements are not yours to turn. If you find one false, say at which input.
  Laid BY PROGRAM, IN A SANDBOX (cutbox-rows.mjs): the forced cells as the released guide's own fill.sh prints them over the translation f08906d09c4b30be… (all of the seat's roots in one cut). By AI agents, Wed Nov 11 2026. No macro, syntax, notation, axiom, sorry.
-/
import Derived.Test.YtapkhdkbkodbjaaGreatChecked
import GoSem.Claim
import GoSem.ClaimJoined
import GoSem.ClaimMapViews
import Derived.JoinedTies
import Derived.KernelRfl
namespace Go.Proofs.YtapkhdkbkodbjaaGreat
/- THE CELL 'sum', in the pinned program and in every row, IS THE sha256 OF THE DUMP (.gsa) THAT YtapkhdkbkodbjaaGreatProg.lean LOADS. Nothing in Lean hashes anything: it is a label: what it is worth is what the hold of that sum in a sandbox is worth. -/
noncomputable def Tryz.pinned : Pinned := { name := "ytapkhdkbkodbjaagreat", sum := "f08906d09c4b30be5cf3f583bddcd66c398deaaa38325977cad3c33821d3b0cf", checked := Tryz.checked }
namespace Rows
def none {H : Type} : Left H := { results := [], args := [] }

/-- 'grammarlablaw25.RuleChecks': WHATEVER THE INPUT: true; the input reads as it did. -/
def ruleChecksSpec : ChangeSpec := { name := "ruleChecks", fn := fun _ => fun
  | [d1, d2] => { results := [.lit (.bool true)], args := [d1, d2] }
  | _ => none }
def ruleChecksRow : OpenClaim := { program := "ytapkhdkbkodbjaagreat", sum := "f08906d09c4b30be5cf3f583bddcd66c398deaaa38325977cad3c33821d3b0cf", func := "grammarlab/grammarlablaw25.RuleChecks", spec := "ruleChecks", unfollowed := true, recurses := true, apart := false }
def RuleChecksSaid : Prop := ruleChecksRow.holds Tryz.pinned (OpenSpec.ofChange ruleChecksSpec)

/-- ITS FALSE NEIGHBOUR: 'it returns false'. Refute it at one input. -/
def ruleChecksWrong : ChangeSpec := { name := "ruleChecks", fn := fun _ => fun
  | [d1, d2] => { results := [.lit (.bool false)], args := [d1, d2] }
  | _ => none }
def RuleChecksWrongFalsely : Prop := ruleChecksRow.holds Tryz.pinned (OpenSpec.ofChange ruleChecksWrong)

/-- 'grammarlablaw25.RuleApplies': WHATEVER THE INPUT: true; the input reads as it did. -/
def ruleAppliesSpec : ChangeSpec := { name := "ruleApplies", fn := fun _ => fun
  | [d] => { results := [.lit (.bool true)], args := [d] }
  | _ => none }
def ruleAppliesRow : OpenClaim := { program := "ytapkhdkbkodbjaagreat", sum := "f08906d09c4b30be5cf3f583bddcd66c398deaaa38325977cad3c33821d3b0cf", func := "grammarlab/grammarlablaw25.RuleApplies", spec := "ruleApplies", unfollowed := true, recurses := true, apart := false }
def RuleAppliesSaid : Prop := ruleAppliesRow.holds Tryz.pinned (OpenSpec.ofChange ruleAppliesSpec)

/-- ITS FALSE NEIGHBOUR: 'it returns false'. Refute it at one input. -/
def ruleAppliesWrong : ChangeSpec := { name := "ruleApplies", fn := fun _ => fun
  | [d] => { results := [.lit (.bool false)], args := [d] }
  | _ => none }
def RuleAppliesWrongFalsely : Prop := ruleAppliesRow.holds Tryz.pinned (OpenSpec.ofChange ruleAppliesWrong)

/-- 'grammarlablaw25.RuleNeutral': WHATEVER THE INPUT: true; the input reads as it did. -/
def ruleNeutralSpec : ChangeSpec := { name := "ruleNeutral", fn := fun _ => fun
  | [d1, d2] => { results := [.lit (.bool true)], args := [d1, d2] }
  | _ => none }
def ruleNeutralRow : OpenClaim := { program := "ytapkhdkbkodbjaagreat", sum := "f08906d09c4b30be5cf3f583bddcd66c398deaaa38325977cad3c33821d3b0cf", func := "grammarlab/grammarlablaw25.RuleNeutral", spec := "ruleNeutral", unfollowed := true, recurses := true, apart := false }
def RuleNeutralSaid : Prop := ruleNeutralRow.holds Tryz.pinned (OpenSpec.ofChange ruleNeutralSpec)

/-- ITS FALSE NEIGHBOUR: 'it returns false'. Refute it at one input. -/
def ruleNeutralWrong : ChangeSpec := { name := "ruleNeutral", fn := fun _ => fun
  | [d1, d2] => { results := [.lit (.bool false)], args := [d1, d2] }
  | _ => none }
def RuleNeutralWrongFalsely : Prop := ruleNeutralRow.holds Tryz.pinned (OpenSpec.ofChange ruleNeutralWrong)

/-- 'grammarlablaw25.RuleParts': WHATEVER THE INPUT: true; the input reads as it did. -/
def rulePartsSpec : ChangeSpec := { name := "ruleParts", fn := fun _ => fun
  | [d1, d2, d3] => { results := [.lit (.bool true)], args := [d1, d2, d3] }
  | _ => none }
def rulePartsRow : OpenClaim := { program := "ytapkhdkbkodbjaagreat", sum := "f08906d09c4b30be5cf3f583bddcd66c398deaaa38325977cad3c33821d3b0cf", func := "grammarlab/grammarlablaw25.RuleParts", spec := "ruleParts", unfollowed := true, recurses := true, apart := false }
def RulePartsSaid : Prop := rulePartsRow.holds Tryz.pinned (OpenSpec.ofChange rulePartsSpec)

/-- ITS FALSE NEIGHBOUR: 'it returns false'. Refute it at one input. -/
def rulePartsWrong : ChangeSpec := { name := "ruleParts", fn := fun _ => fun
  | [d1, d2, d3] => { results := [.lit (.bool false)], args := [d1, d2, d3] }
  | _ => none }
def RulePartsWrongFalsely : Prop := rulePartsRow.holds Tryz.pinned (OpenSpec.ofChange rulePartsWrong)

/-- 'grammarlablaw25.RuleMonotone': WHATEVER THE INPUT: true; the input reads as it did. -/
def ruleMonotoneSpec : ChangeSpec := { name := "ruleMonotone", fn := fun _ => fun
  | [d] => { results := [.lit (.bool true)], args := [d] }
  | _ => none }
def ruleMonotoneRow : OpenClaim := { program := "ytapkhdkbkodbjaagreat", sum := "f08906d09c4b30be5cf3f583bddcd66c398deaaa38325977cad3c33821d3b0cf", func := "grammarlab/grammarlablaw25.RuleMonotone", spec := "ruleMonotone", unfollowed := true, recurses := true, apart := false }
def RuleMonotoneSaid : Prop := ruleMonotoneRow.holds Tryz.pinned (OpenSpec.ofChange ruleMonotoneSpec)

/-- ITS FALSE NEIGHBOUR: 'it returns false'. Refute it at one input. -/
def ruleMonotoneWrong : ChangeSpec := { name := "ruleMonotone", fn := fun _ => fun
  | [d] => { results := [.lit (.bool false)], args := [d] }
  | _ => none }
def RuleMonotoneWrongFalsely : Prop := ruleMonotoneRow.holds Tryz.pinned (OpenSpec.ofChange ruleMonotoneWrong)

/-- 'grammarlablaw25.RuleTyped': WHATEVER THE INPUT: true; the input reads as it did. -/
def ruleTypedSpec : ChangeSpec := { name := "ruleTyped", fn := fun _ => fun
  | [d] => { results := [.lit (.bool true)], args := [d] }
  | _ => none }
def ruleTypedRow : OpenClaim := { program := "ytapkhdkbkodbjaagreat", sum := "f08906d09c4b30be5cf3f583bddcd66c398deaaa38325977cad3c33821d3b0cf", func := "grammarlab/grammarlablaw25.RuleTyped", spec := "ruleTyped", unfollowed := true, recurses := true, apart := false }
def RuleTypedSaid : Prop := ruleTypedRow.holds Tryz.pinned (OpenSpec.ofChange ruleTypedSpec)

/-- ITS FALSE NEIGHBOUR: 'it returns false'. Refute it at one input. -/
def ruleTypedWrong : ChangeSpec := { name := "ruleTyped", fn := fun _ => fun
  | [d] => { results := [.lit (.bool false)], args := [d] }
  | _ => none }
def RuleTypedWrongFalsely : Prop := ruleTypedRow.holds Tryz.pinned (OpenSpec.ofChange ruleTypedWrong)

/-- 'grammarlablaw17.ListDiffs': WHATEVER THE INPUT: true; the input reads as it did. -/
def listDiffsSpec : ChangeSpec := { name := "listDiffs", fn := fun _ => fun
  | [d1, d2, d3] => { results := [.lit (.bool true)], args := [d1, d2, d3] }
  | _ => none }
def listDiffsRow : OpenClaim := { program := "ytapkhdkbkodbjaagreat", sum := "f08906d09c4b30be5cf3f583bddcd66c398deaaa38325977cad3c33821d3b0cf", func := "grammarlab/grammarlablaw17.ListDiffs", spec := "listDiffs", unfollowed := true, recurses := true, apart := false }
def ListDiffsSaid : Prop := listDiffsRow.holds Tryz.pinned (OpenSpec.ofChange listDiffsSpec)

/-- ITS FALSE NEIGHBOUR: 'it returns false'. Refute it at one input. -/
def listDiffsWrong : ChangeSpec := { name := "listDiffs", fn := fun _ => fun
  | [d1, d2, d3] => { results := [.lit (.bool false)], args := [d1, d2, d3] }
  | _ => none }
def ListDiffsWrongFalsely : Prop := listDiffsRow.holds Tryz.pinned (OpenSpec.ofChange listDiffsWrong)

/-- 'grammarlablaw17.ListAppends': WHATEVER THE INPUT: true; the input reads as it did. -/
def listAppendsSpec : ChangeSpec := { name := "listAppends", fn := fun _ => fun
  | [d1, d2, d3] => { results := [.lit (.bool true)], args := [d1, d2, d3] }
  | _ => none }
def listAppendsRow : OpenClaim := { program := "ytapkhdkbkodbjaagreat", sum := "f08906d09c4b30be5cf3f583bddcd66c398deaaa38325977cad3c33821d3b0cf", func := "grammarlab/grammarlablaw17.ListAppends", spec := "listAppends", unfollowed := true, recurses := true, apart := false }
def ListAppendsSaid : Prop := listAppendsRow.holds Tryz.pinned (OpenSpec.ofChange listAppendsSpec)

/-- ITS FALSE NEIGHBOUR: 'it returns false'. Refute it at one input. -/
def listAppendsWrong : ChangeSpec := { name := "listAppends", fn := fun _ => fun
  | [d1, d2, d3] => { results := [.lit (.bool false)], args := [d1, d2, d3] }
  | _ => none }
def ListAppendsWrongFalsely : Prop := listAppendsRow.holds Tryz.pinned (OpenSpec.ofChange listAppendsWrong)

/-- 'grammarlablaw17.ListConcat': WHATEVER THE INPUT: true; the input reads as it did. -/
def listConcatSpec : ChangeSpec := { name := "listConcat", fn := fun _ => fun
  | [d1, d2, d3] => { results := [.lit (.bool true)], args := [d1, d2, d3] }
  | _ => none }
def listConcatRow : OpenClaim := { program := "ytapkhdkbkodbjaagreat", sum := "f08906d09c4b30be5cf3f583bddcd66c398deaaa38325977cad3c33821d3b0cf", func := "grammarlab/grammarlablaw17.ListConcat", spec := "listConcat", unfollowed := true, recurses := true, apart := false }
def ListConcatSaid : Prop := listConcatRow.holds Tryz.pinned (OpenSpec.ofChange listConcatSpec)

/-- ITS FALSE NEIGHBOUR: 'it returns false'. Refute it at one input. -/
def listConcatWrong : ChangeSpec := { name := "listConcat", fn := fun _ => fun
  | [d1, d2, d3] => { results := [.lit (.bool false)], args := [d1, d2, d3] }
  | _ => none }
def ListConcatWrongFalsely : Prop := listConcatRow.holds Tryz.pinned (OpenSpec.ofChange listConcatWrong)

/-- 'grammarlablaw17.ListMakes': WHATEVER THE INPUT: true; the input reads as it did. -/
def listMakesSpec : ChangeSpec := { name := "listMakes", fn := fun _ => fun
  | [d1, d2] => { results := [.lit (.bool true)], args := [d1, d2] }
  | _ => none }
def listMakesRow : OpenClaim := { program := "ytapkhdkbkodbjaagreat", sum := "f08906d09c4b30be5cf3f583bddcd66c398deaaa38325977cad3c33821d3b0cf", func := "grammarlab/grammarlablaw17.ListMakes", spec := "listMakes", unfollowed := true, recurses := true, apart := false }
def ListMakesSaid : Prop := listMakesRow.holds Tryz.pinned (OpenSpec.ofChange listMakesSpec)

/-- ITS FALSE NEIGHBOUR: 'it returns false'. Refute it at one input. -/
def listMakesWrong : ChangeSpec := { name := "listMakes", fn := fun _ => fun
  | [d1, d2] => { results := [.lit (.bool false)], args := [d1, d2] }
  | _ => none }
def ListMakesWrongFalsely : Prop := listMakesRow.holds Tryz.pinned (OpenSpec.ofChange listMakesWrong)

/-- 'grammarlablaw17.ListNodes': WHATEVER THE INPUT: true; the input reads as it did. -/
def listNodesSpec : ChangeSpec := { name := "listNodes", fn := fun _ => fun
  | [d1, d2, d3] => { results := [.lit (.bool true)], args := [d1, d2, d3] }
  | _ => none }
def listNodesRow : OpenClaim := { program := "ytapkhdkbkodbjaagreat", sum := "f08906d09c4b30be5cf3f583bddcd66c398deaaa38325977cad3c33821d3b0cf", func := "grammarlab/grammarlablaw17.ListNodes", spec := "listNodes", unfollowed := true, recurses := true, apart := false }
def ListNodesSaid : Prop := listNodesRow.holds Tryz.pinned (OpenSpec.ofChange listNodesSpec)

/-- ITS FALSE NEIGHBOUR: 'it returns false'. Refute it at one input. -/
def listNodesWrong : ChangeSpec := { name := "listNodes", fn := fun _ => fun
  | [d1, d2, d3] => { results := [.lit (.bool false)], args := [d1, d2, d3] }
  | _ => none }
def ListNodesWrongFalsely : Prop := listNodesRow.holds Tryz.pinned (OpenSpec.ofChange listNodesWrong)

/-- 'grammarlablaw17.ListWalks': WHATEVER THE INPUT: true; the input reads as it did. -/
def listWalksSpec : ChangeSpec := { name := "listWalks", fn := fun _ => fun
  | [d1, d2] => { results := [.lit (.bool true)], args := [d1, d2] }
  | _ => none }
def listWalksRow : OpenClaim := { program := "ytapkhdkbkodbjaagreat", sum := "f08906d09c4b30be5cf3f583bddcd66c398deaaa38325977cad3c33821d3b0cf", func := "grammarlab/grammarlablaw17.ListWalks", spec := "listWalks", unfollowed := true, recurses := true, apart := false }
def ListWalksSaid : Prop := listWalksRow.holds Tryz.pinned (OpenSpec.ofChange listWalksSpec)

/-- ITS FALSE NEIGHBOUR: 'it returns false'. Refute it at one input. -/
def listWalksWrong : ChangeSpec := { name := "listWalks", fn := fun _ => fun
  | [d1, d2] => { results := [.lit (.bool false)], args := [d1, d2] }
  | _ => none }
def ListWalksWrongFalsely : Prop := listWalksRow.holds Tryz.pinned (OpenSpec.ofChange listWalksWrong)

/-- 'grammarlablaw17.ListUnifies': WHATEVER THE INPUT: true; the input reads as it did. -/
def listUnifiesSpec : ChangeSpec := { name := "listUnifies", fn := fun _ => fun
  | [d1, d2, d3] => { results := [.lit (.bool true)], args := [d1, d2, d3] }
  | _ => none }
def listUnifiesRow : OpenClaim := { program := "ytapkhdkbkodbjaagreat", sum := "f08906d09c4b30be5cf3f583bddcd66c398deaaa38325977cad3c33821d3b0cf", func := "grammarlab/grammarlablaw17.ListUnifies", spec := "listUnifies", unfollowed := true, recurses := true, apart := false }
def ListUnifiesSaid : Prop := listUnifiesRow.holds Tryz.pinned (OpenSpec.ofChange listUnifiesSpec)

/-- ITS FALSE NEIGHBOUR: 'it returns false'. Refute it at one input. -/
def listUnifiesWrong : ChangeSpec := { name := "listUnifies", fn := fun _ => fun
  | [d1, d2, d3] => { results := [.lit (.bool false)], args := [d1, d2, d3] }
  | _ => none }
def ListUnifiesWrongFalsely : Prop := listUnifiesRow.holds Tryz.pinned (OpenSpec.ofChange listUnifiesWrong)

/-- 'grammarlablaw17.ListBack': WHATEVER THE INPUT: true; the input reads as it did. -/
def listBackSpec : ChangeSpec := { name := "listBack", fn := fun _ => fun
  | [d1, d2] => { results := [.lit (.bool true)], args := [d1, d2] }
  | _ => none }
def listBackRow : OpenClaim := { program := "ytapkhdkbkodbjaagreat", sum := "f08906d09c4b30be5cf3f583bddcd66c398deaaa38325977cad3c33821d3b0cf", func := "grammarlab/grammarlablaw17.ListBack", spec := "listBack", unfollowed := true, recurses := true, apart := false }
def ListBackSaid : Prop := listBackRow.holds Tryz.pinned (OpenSpec.ofChange listBackSpec)

/-- ITS FALSE NEIGHBOUR: 'it returns false'. Refute it at one input. -/
def listBackWrong : ChangeSpec := { name := "listBack", fn := fun _ => fun
  | [d1, d2] => { results := [.lit (.bool false)], args := [d1, d2] }
  | _ => none }
def ListBackWrongFalsely : Prop := listBackRow.holds Tryz.pinned (OpenSpec.ofChange listBackWrong)

/- THE SECOND FORM. 'bulk': how many values and letters a reading holds, each counted each time it is reached (what is shared counts as often as it is met; a slice's spare places count too). A statement '..UptoSaid' is the law's where the arguments, and the package variables that the reading takes, are together of bulk at most 1048576: NARROWER than '..Said'. Prove '..Said' where nothing that the law and all that it calls make is longer than what came in: it says more and counts as full. Else prove '..UptoSaid'. A law counts once. -/
mutual
def uptoBulk {H : Type} : DataW H → Nat
  | .lit (.string bytes) => bytes.length + 1
  | .lit _ => 1
  | .nil => 1
  | .ptr d => uptoBulk d + 1
  | .slice elems spare => uptoBulkAll elems + uptoBulkAll spare + 1
  | .agg parts => uptoBulkAll parts + 1
  | .iface _ d => uptoBulk d + 1
  | .map entries => uptoBulkEntries entries + 1
  | .held _ => 1
def uptoBulkAll {H : Type} : List (DataW H) → Nat
  | [] => 0
  | d :: r => uptoBulk d + uptoBulkAll r
def uptoBulkEntries {H : Type} : List (Lit × DataW H) → Nat
  | [] => 0
  | x :: r => uptoBulkEntry x + uptoBulkEntries r
def uptoBulkEntry {H : Type} : Lit × DataW H → Nat
  | (.string bytes, d) => bytes.length + uptoBulk d + 1
  | (_, d) => uptoBulk d + 1
 end
def uptoSmall : (H : Type) → List (DataW H) → Bool := fun _ ds => decide (uptoBulkAll ds ≤ 1048576)
def OpenSpec.upto (s : _root_.Go.ChangeSpec) : _root_.Go.OpenSpec := { _root_.Go.OpenSpec.ofChange s with cond := some uptoSmall }

/-- 'grammarlablaw25.RuleChecks', WHERE WHAT IT READS IS OF BULK AT MOST 1048576: true; the input reads as it did. -/
def ruleChecksUptoRow : OpenClaim := { program := "ytapkhdkbkodbjaagreat", sum := "f08906d09c4b30be5cf3f583bddcd66c398deaaa38325977cad3c33821d3b0cf", func := "grammarlab/grammarlablaw25.RuleChecks", spec := "ruleChecks", unfollowed := true, recurses := true, apart := false, narrowed := true }
def RuleChecksUptoSaid : Prop := ruleChecksUptoRow.holds Tryz.pinned (OpenSpec.upto ruleChecksSpec)

/-- 'grammarlablaw25.RuleApplies', WHERE WHAT IT READS IS OF BULK AT MOST 1048576: true; the input reads as it did. -/
def ruleAppliesUptoRow : OpenClaim := { program := "ytapkhdkbkodbjaagreat", sum := "f08906d09c4b30be5cf3f583bddcd66c398deaaa38325977cad3c33821d3b0cf", func := "grammarlab/grammarlablaw25.RuleApplies", spec := "ruleApplies", unfollowed := true, recurses := true, apart := false, narrowed := true }
def RuleAppliesUptoSaid : Prop := ruleAppliesUptoRow.holds Tryz.pinned (OpenSpec.upto ruleAppliesSpec)

/-- 'grammarlablaw25.RuleNeutral', WHERE WHAT IT READS IS OF BULK AT MOST 1048576: true; the input reads as it did. -/
def ruleNeutralUptoRow : OpenClaim := { program := "ytapkhdkbkodbjaagreat", sum := "f08906d09c4b30be5cf3f583bddcd66c398deaaa38325977cad3c33821d3b0cf", func := "grammarlab/grammarlablaw25.RuleNeutral", spec := "ruleNeutral", unfollowed := true, recurses := true, apart := false, narrowed := true }
def RuleNeutralUptoSaid : Prop := ruleNeutralUptoRow.holds Tryz.pinned (OpenSpec.upto ruleNeutralSpec)

/-- 'grammarlablaw25.RuleParts', WHERE WHAT IT READS IS OF BULK AT MOST 1048576: true; the input reads as it did. -/
def rulePartsUptoRow : OpenClaim := { program := "ytapkhdkbkodbjaagreat", sum := "f08906d09c4b30be5cf3f583bddcd66c398deaaa38325977cad3c33821d3b0cf", func := "grammarlab/grammarlablaw25.RuleParts", spec := "ruleParts", unfollowed := true, recurses := true, apart := false, narrowed := true }
def RulePartsUptoSaid : Prop := rulePartsUptoRow.holds Tryz.pinned (OpenSpec.upto rulePartsSpec)

/-- 'grammarlablaw25.RuleMonotone', WHERE WHAT IT READS IS OF BULK AT MOST 1048576: true; the input reads as it did. -/
def ruleMonotoneUptoRow : OpenClaim := { program := "ytapkhdkbkodbjaagreat", sum := "f08906d09c4b30be5cf3f583bddcd66c398deaaa38325977cad3c33821d3b0cf", func := "grammarlab/grammarlablaw25.RuleMonotone", spec := "ruleMonotone", unfollowed := true, recurses := true, apart := false, narrowed := true }
def RuleMonotoneUptoSaid : Prop := ruleMonotoneUptoRow.holds Tryz.pinned (OpenSpec.upto ruleMonotoneSpec)

/-- 'grammarlablaw25.RuleTyped', WHERE WHAT IT READS IS OF BULK AT MOST 1048576: true; the input reads as it did. -/
def ruleTypedUptoRow : OpenClaim := { program := "ytapkhdkbkodbjaagreat", sum := "f08906d09c4b30be5cf3f583bddcd66c398deaaa38325977cad3c33821d3b0cf", func := "grammarlab/grammarlablaw25.RuleTyped", spec := "ruleTyped", unfollowed := true, recurses := true, apart := false, narrowed := true }
def RuleTypedUptoSaid : Prop := ruleTypedUptoRow.holds Tryz.pinned (OpenSpec.upto ruleTypedSpec)

/-- 'grammarlablaw17.ListDiffs', WHERE WHAT IT READS IS OF BULK AT MOST 1048576: true; the input reads as it did. -/
def listDiffsUptoRow : OpenClaim := { program := "ytapkhdkbkodbjaagreat", sum := "f08906d09c4b30be5cf3f583bddcd66c398deaaa38325977cad3c33821d3b0cf", func := "grammarlab/grammarlablaw17.ListDiffs", spec := "listDiffs", unfollowed := true, recurses := true, apart := false, narrowed := true }
def ListDiffsUptoSaid : Prop := listDiffsUptoRow.holds Tryz.pinned (OpenSpec.upto listDiffsSpec)

/-- 'grammarlablaw17.ListAppends', WHERE WHAT IT READS IS OF BULK AT MOST 1048576: true; the input reads as it did. -/
def listAppendsUptoRow : OpenClaim := { program := "ytapkhdkbkodbjaagreat", sum := "f08906d09c4b30be5cf3f583bddcd66c398deaaa38325977cad3c33821d3b0cf", func := "grammarlab/grammarlablaw17.ListAppends", spec := "listAppends", unfollowed := true, recurses := true, apart := false, narrowed := true }
def ListAppendsUptoSaid : Prop := listAppendsUptoRow.holds Tryz.pinned (OpenSpec.upto listAppendsSpec)

/-- 'grammarlablaw17.ListConcat', WHERE WHAT IT READS IS OF BULK AT MOST 1048576: true; the input reads as it did. -/
def listConcatUptoRow : OpenClaim := { program := "ytapkhdkbkodbjaagreat", sum := "f08906d09c4b30be5cf3f583bddcd66c398deaaa38325977cad3c33821d3b0cf", func := "grammarlab/grammarlablaw17.ListConcat", spec := "listConcat", unfollowed := true, recurses := true, apart := false, narrowed := true }
def ListConcatUptoSaid : Prop := listConcatUptoRow.holds Tryz.pinned (OpenSpec.upto listConcatSpec)

/-- 'grammarlablaw17.ListMakes', WHERE WHAT IT READS IS OF BULK AT MOST 1048576: true; the input reads as it did. -/
def listMakesUptoRow : OpenClaim := { program := "ytapkhdkbkodbjaagreat", sum := "f08906d09c4b30be5cf3f583bddcd66c398deaaa38325977cad3c33821d3b0cf", func := "grammarlab/grammarlablaw17.ListMakes", spec := "listMakes", unfollowed := true, recurses := true, apart := false, narrowed := true }
def ListMakesUptoSaid : Prop := listMakesUptoRow.holds Tryz.pinned (OpenSpec.upto listMakesSpec)

/-- 'grammarlablaw17.ListNodes', WHERE WHAT IT READS IS OF BULK AT MOST 1048576: true; the input reads as it did. -/
def listNodesUptoRow : OpenClaim := { program := "ytapkhdkbkodbjaagreat", sum := "f08906d09c4b30be5cf3f583bddcd66c398deaaa38325977cad3c33821d3b0cf", func := "grammarlab/grammarlablaw17.ListNodes", spec := "listNodes", unfollowed := true, recurses := true, apart := false, narrowed := true }
def ListNodesUptoSaid : Prop := listNodesUptoRow.holds Tryz.pinned (OpenSpec.upto listNodesSpec)

/-- 'grammarlablaw17.ListWalks', WHERE WHAT IT READS IS OF BULK AT MOST 1048576: true; the input reads as it did. -/
def listWalksUptoRow : OpenClaim := { program := "ytapkhdkbkodbjaagreat", sum := "f08906d09c4b30be5cf3f583bddcd66c398deaaa38325977cad3c33821d3b0cf", func := "grammarlab/grammarlablaw17.ListWalks", spec := "listWalks", unfollowed := true, recurses := true, apart := false, narrowed := true }
def ListWalksUptoSaid : Prop := listWalksUptoRow.holds Tryz.pinned (OpenSpec.upto listWalksSpec)

/-- 'grammarlablaw17.ListUnifies', WHERE WHAT IT READS IS OF BULK AT MOST 1048576: true; the input reads as it did. -/
def listUnifiesUptoRow : OpenClaim := { program := "ytapkhdkbkodbjaagreat", sum := "f08906d09c4b30be5cf3f583bddcd66c398deaaa38325977cad3c33821d3b0cf", func := "grammarlab/grammarlablaw17.ListUnifies", spec := "listUnifies", unfollowed := true, recurses := true, apart := false, narrowed := true }
def ListUnifiesUptoSaid : Prop := listUnifiesUptoRow.holds Tryz.pinned (OpenSpec.upto listUnifiesSpec)

/-- 'grammarlablaw17.ListBack', WHERE WHAT IT READS IS OF BULK AT MOST 1048576: true; the input reads as it did. -/
def listBackUptoRow : OpenClaim := { program := "ytapkhdkbkodbjaagreat", sum := "f08906d09c4b30be5cf3f583bddcd66c398deaaa38325977cad3c33821d3b0cf", func := "grammarlab/grammarlablaw17.ListBack", spec := "listBack", unfollowed := true, recurses := true, apart := false, narrowed := true }
def ListBackUptoSaid : Prop := listBackUptoRow.holds Tryz.pinned (OpenSpec.upto listBackSpec)

end Rows
end Go.Proofs.YtapkhdkbkodbjaaGreat

/-
  No cell of these rows narrows 'for every input' (looked for: loops, veiled, ifaces, maps, wideKeys, modest, calm, conditions, laid).
  DERIVED. THE GIVEN ROWS OF THIS SEAT. 4 by the template 'for every input the law returns true; each argument reads behind the call as it read before'; 0 by the template 'total and deterministic' (their statements: YtebfihindnhccaaTotals.lean).
  GIVEN WITH THE SEED: the statements are not yours to turn. If you find one false, say at which input.
  Laid BY PROGRAM, IN A SANDBOX (cutbox-rows.mjs): the forced cells as the released guide's own fill.sh prints them over the translation d73dc74e512e974d… (all of the seat's roots in one cut). By AI agents, Wed Nov 11 2026. No macro, syntax, notation, axiom, sorry.
-/
import Derived.Test.YtebfihindnhccaaChecked
import GoSem.Claim
import GoSem.ClaimJoined
import GoSem.ClaimMapViews
import Derived.JoinedTies
import Derived.KernelRfl
namespace Go.Proofs.Ytebfihindnhccaa
/- THE CELL 'sum', in the pinned program and in every row, IS THE sha256 OF THE DUMP (.gsa) THAT YtebfihindnhccaaProg.lean LOADS. Nothing in Lean hashes anything: it is a label: what it is worth is what the hold of that sum in a sandbox is worth. -/
noncomputable def Try.pinned : Pinned := { name := "ytebfihindnhccaa", sum := "d73dc74e512e974d097f99f04c0a9aabad3b2dd5e73ce9d7930b7cda4e6fb099", checked := Try.checked }
namespace Rows
def none {H : Type} : Left H := { results := [], args := [] }

/-- 'grammarlablaw11.UnifyLeast': WHATEVER THE INPUT: true; the input reads as it did. -/
def unifyLeastSpec : ChangeSpec := { name := "unifyLeast", fn := fun _ => fun
  | [d1, d2] => { results := [.lit (.bool true)], args := [d1, d2] }
  | _ => none }
def unifyLeastRow : OpenClaim := { program := "ytebfihindnhccaa", sum := "d73dc74e512e974d097f99f04c0a9aabad3b2dd5e73ce9d7930b7cda4e6fb099", func := "grammarlab/grammarlablaw11.UnifyLeast", spec := "unifyLeast", unfollowed := true, recurses := true, plainKeys := false, apart := false }
def UnifyLeastSaid : Prop := unifyLeastRow.holds Try.pinned (OpenSpec.ofChange unifyLeastSpec)

/-- ITS FALSE NEIGHBOUR: 'it returns false'. Refute it at one input. -/
def unifyLeastWrong : ChangeSpec := { name := "unifyLeast", fn := fun _ => fun
  | [d1, d2] => { results := [.lit (.bool false)], args := [d1, d2] }
  | _ => none }
def UnifyLeastWrongFalsely : Prop := unifyLeastRow.holds Try.pinned (OpenSpec.ofChange unifyLeastWrong)

/-- 'grammarlablaw11.UnifyLaws': WHATEVER THE INPUT: true; the input reads as it did. -/
def unifyLawsSpec : ChangeSpec := { name := "unifyLaws", fn := fun _ => fun
  | [d1, d2] => { results := [.lit (.bool true)], args := [d1, d2] }
  | _ => none }
def unifyLawsRow : OpenClaim := { program := "ytebfihindnhccaa", sum := "d73dc74e512e974d097f99f04c0a9aabad3b2dd5e73ce9d7930b7cda4e6fb099", func := "grammarlab/grammarlablaw11.UnifyLaws", spec := "unifyLaws", unfollowed := true, recurses := true, plainKeys := false, apart := false }
def UnifyLawsSaid : Prop := unifyLawsRow.holds Try.pinned (OpenSpec.ofChange unifyLawsSpec)

/-- ITS FALSE NEIGHBOUR: 'it returns false'. Refute it at one input. -/
def unifyLawsWrong : ChangeSpec := { name := "unifyLaws", fn := fun _ => fun
  | [d1, d2] => { results := [.lit (.bool false)], args := [d1, d2] }
  | _ => none }
def UnifyLawsWrongFalsely : Prop := unifyLawsRow.holds Try.pinned (OpenSpec.ofChange unifyLawsWrong)

/-- 'grammarlablaw11.UnifyShares': WHATEVER THE INPUT: true; the input reads as it did. -/
def unifySharesSpec : ChangeSpec := { name := "unifyShares", fn := fun _ => fun
  | [d1, d2, d3] => { results := [.lit (.bool true)], args := [d1, d2, d3] }
  | _ => none }
def unifySharesRow : OpenClaim := { program := "ytebfihindnhccaa", sum := "d73dc74e512e974d097f99f04c0a9aabad3b2dd5e73ce9d7930b7cda4e6fb099", func := "grammarlab/grammarlablaw11.UnifyShares", spec := "unifyShares", unfollowed := true, recurses := true, plainKeys := false, apart := false }
def UnifySharesSaid : Prop := unifySharesRow.holds Try.pinned (OpenSpec.ofChange unifySharesSpec)

/-- ITS FALSE NEIGHBOUR: 'it returns false'. Refute it at one input. -/
def unifySharesWrong : ChangeSpec := { name := "unifyShares", fn := fun _ => fun
  | [d1, d2, d3] => { results := [.lit (.bool false)], args := [d1, d2, d3] }
  | _ => none }
def UnifySharesWrongFalsely : Prop := unifySharesRow.holds Try.pinned (OpenSpec.ofChange unifySharesWrong)

/-- 'grammarlablaw15.RestrictKeeps': WHATEVER THE INPUT: true; the input reads as it did. -/
def restrictKeepsSpec : ChangeSpec := { name := "restrictKeeps", fn := fun _ => fun
  | [d1, d2] => { results := [.lit (.bool true)], args := [d1, d2] }
  | _ => none }
def restrictKeepsRow : OpenClaim := { program := "ytebfihindnhccaa", sum := "d73dc74e512e974d097f99f04c0a9aabad3b2dd5e73ce9d7930b7cda4e6fb099", func := "grammarlab/grammarlablaw15.RestrictKeeps", spec := "restrictKeeps", unfollowed := true, recurses := true, plainKeys := false, apart := false }
def RestrictKeepsSaid : Prop := restrictKeepsRow.holds Try.pinned (OpenSpec.ofChange restrictKeepsSpec)

/-- ITS FALSE NEIGHBOUR: 'it returns false'. Refute it at one input. -/
def restrictKeepsWrong : ChangeSpec := { name := "restrictKeeps", fn := fun _ => fun
  | [d1, d2] => { results := [.lit (.bool false)], args := [d1, d2] }
  | _ => none }
def RestrictKeepsWrongFalsely : Prop := restrictKeepsRow.holds Try.pinned (OpenSpec.ofChange restrictKeepsWrong)

/- THE SECOND FORM. 'bulk': how many values and letters a reading holds, each counted each time it is reached (what is shared counts as often as it is met; a slice's spare places count too). A statement '..UptoSaid' is the law's where the arguments, and the package variables that the reading takes, are together of bulk at most 1048576: NARROWER than '..Said'. Prove '..Said' where nothing that the law and all that it calls make is longer than what came in: it says more and counts as full. Else prove '..UptoSaid'. A law counts once. -/
mutual
def uptoBulk {H : Type} : DataW H → Nat
  | .lit (.string bytes) => bytes.length + 1
  | .lit _ => 1
  | .nil => 1
  | .ptr d => uptoBulk d + 1
  | .slice elems spare => uptoBulkAll elems + uptoBulkAll spare + 1
  | .agg parts => uptoBulkAll parts + 1
  | .iface _ d => uptoBulk d + 1
  | .map entries => uptoBulkEntries entries + 1
  | .held _ => 1
def uptoBulkAll {H : Type} : List (DataW H) → Nat
  | [] => 0
  | d :: r => uptoBulk d + uptoBulkAll r
def uptoBulkEntries {H : Type} : List (Lit × DataW H) → Nat
  | [] => 0
  | x :: r => uptoBulkEntry x + uptoBulkEntries r
def uptoBulkEntry {H : Type} : Lit × DataW H → Nat
  | (.string bytes, d) => bytes.length + uptoBulk d + 1
  | (_, d) => uptoBulk d + 1
 end
def uptoSmall : (H : Type) → List (DataW H) → Bool := fun _ ds => decide (uptoBulkAll ds ≤ 1048576)
def OpenSpec.upto (s : _root_.Go.ChangeSpec) : _root_.Go.OpenSpec := { _root_.Go.OpenSpec.ofChange s with cond := some uptoSmall }

/-- 'grammarlablaw11.UnifyLeast', WHERE WHAT IT READS IS OF BULK AT MOST 1048576: true; the input reads as it did. -/
def unifyLeastUptoRow : OpenClaim := { program := "ytebfihindnhccaa", sum := "d73dc74e512e974d097f99f04c0a9aabad3b2dd5e73ce9d7930b7cda4e6fb099", func := "grammarlab/grammarlablaw11.UnifyLeast", spec := "unifyLeast", unfollowed := true, recurses := true, plainKeys := false, apart := false, narrowed := true }
def UnifyLeastUptoSaid : Prop := unifyLeastUptoRow.holds Try.pinned (OpenSpec.upto unifyLeastSpec)

/-- 'grammarlablaw11.UnifyLaws', WHERE WHAT IT READS IS OF BULK AT MOST 1048576: true; the input reads as it did. -/
def unifyLawsUptoRow : OpenClaim := { program := "ytebfihindnhccaa", sum := "d73dc74e512e974d097f99f04c0a9aabad3b2dd5e73ce9d7930b7cda4e6fb099", func := "grammarlab/grammarlablaw11.UnifyLaws", spec := "unifyLaws", unfollowed := true, recurses := true, plainKeys := false, apart := false, narrowed := true }
def UnifyLawsUptoSaid : Prop := unifyLawsUptoRow.holds Try.pinned (OpenSpec.upto unifyLawsSpec)

/-- 'grammarlablaw11.UnifyShares', WHERE WHAT IT READS IS OF BULK AT MOST 1048576: true; the input reads as it did. -/
def unifySharesUptoRow : OpenClaim := { program := "ytebfihindnhccaa", sum := "d73dc74e512e974d097f99f04c0a9aabad3b2dd5e73ce9d7930b7cda4e6fb099", func := "grammarlab/grammarlablaw11.UnifyShares", spec := "unifyShares", unfollowed := true, recurses := true, plainKeys := false, apart := false, narrowed := true }
def UnifySharesUptoSaid : Prop := unifySharesUptoRow.holds Try.pinned (OpenSpec.upto unifySharesSpec)

/-- 'grammarlablaw15.RestrictKeeps', WHERE WHAT IT READS IS OF BULK AT MOST 1048576: true; the input reads as it did. -/
def restrictKeepsUptoRow : OpenClaim := { program := "ytebfihindnhccaa", sum := "d73dc74e512e974d097f99f04c0a9aabad3b2dd5e73ce9d7930b7cda4e6fb099", func := "grammarlab/grammarlablaw15.RestrictKeeps", spec := "restrictKeeps", unfollowed := true, recurses := true, plainKeys := false, apart := false, narrowed := true }
def RestrictKeepsUptoSaid : Prop := restrictKeepsUptoRow.holds Try.pinned (OpenSpec.upto restrictKeepsSpec)

end Rows
end Go.Proofs.Ytebfihindnhccaa

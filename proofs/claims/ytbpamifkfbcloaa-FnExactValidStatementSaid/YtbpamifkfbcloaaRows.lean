/-
  No cell of these rows narrows 'for every input' (looked for: loops, veiled, ifaces, maps, wideKeys, modest, calm, conditions, laid).
  DERIVED. THE GIVEN ROWS OF THIS SEAT. 5 by the template 'for every input the law returns true; each argument reads behind the call as it read before'; 0 by the template 'total and deterministic' (their statements: YtbpamifkfbcloaaTotals.lean).
  GIVEN WITH THE SEED: the statements are not yours to turn. If you find one false, say at which input.
  Laid BY PROGRAM, IN A SANDBOX (cutbox-rows.mjs): the forced cells as the released guide's own fill.sh prints them over the translation fdc5674313c81b31… (all of the seat's roots in one cut). By AI agents, Wed Nov 11 2026. No macro, syntax, notation, axiom, sorry.
-/
import Derived.Test.YtbpamifkfbcloaaChecked
import GoSem.Claim
import GoSem.ClaimJoined
import GoSem.ClaimMapViews
import Derived.JoinedTies
import Derived.KernelRfl
namespace Go.Proofs.Ytbpamifkfbcloaa
/- THE CELL 'sum', in the pinned program and in every row, IS THE sha256 OF THE DUMP (.gsa) THAT YtbpamifkfbcloaaProg.lean LOADS. Nothing in Lean hashes anything: it is a label: what it is worth is what the hold of that sum in a sandbox is worth. -/
noncomputable def Try.pinned : Pinned := { name := "ytbpamifkfbcloaa", sum := "fdc5674313c81b31429bac77d64872735ae3d64cd7cf1bd6d29719cd65f3dfc1", checked := Try.checked }
namespace Rows
def none {H : Type} : Left H := { results := [], args := [] }

/-- 'laws.FnExactSumOfFlag': WHATEVER THE INPUT: true; the input reads as it did. -/
def fnExactSumOfFlagSpec : ChangeSpec := { name := "fnExactSumOfFlag", fn := fun _ => fun
  | [d] => { results := [.lit (.bool true)], args := [d] }
  | _ => none }
def fnExactSumOfFlagRow : OpenClaim := { program := "ytbpamifkfbcloaa", sum := "fdc5674313c81b31429bac77d64872735ae3d64cd7cf1bd6d29719cd65f3dfc1", func := "loop.example/g01169/laws.FnExactSumOfFlag", spec := "fnExactSumOfFlag", unfollowed := true, recurses := true, apart := false }
def FnExactSumOfFlagSaid : Prop := fnExactSumOfFlagRow.holds Try.pinned (OpenSpec.ofChange fnExactSumOfFlagSpec)

/-- ITS FALSE NEIGHBOUR: 'it returns false'. Refute it at one input. -/
def fnExactSumOfFlagWrong : ChangeSpec := { name := "fnExactSumOfFlag", fn := fun _ => fun
  | [d] => { results := [.lit (.bool false)], args := [d] }
  | _ => none }
def FnExactSumOfFlagWrongFalsely : Prop := fnExactSumOfFlagRow.holds Try.pinned (OpenSpec.ofChange fnExactSumOfFlagWrong)

/-- 'laws.FnExactValidBlock': WHATEVER THE INPUT: true; the input reads as it did. -/
def fnExactValidBlockSpec : ChangeSpec := { name := "fnExactValidBlock", fn := fun _ => fun
  | [d] => { results := [.lit (.bool true)], args := [d] }
  | _ => none }
def fnExactValidBlockRow : OpenClaim := { program := "ytbpamifkfbcloaa", sum := "fdc5674313c81b31429bac77d64872735ae3d64cd7cf1bd6d29719cd65f3dfc1", func := "loop.example/g01169/laws.FnExactValidBlock", spec := "fnExactValidBlock", unfollowed := true, recurses := true, apart := false }
def FnExactValidBlockSaid : Prop := fnExactValidBlockRow.holds Try.pinned (OpenSpec.ofChange fnExactValidBlockSpec)

/-- ITS FALSE NEIGHBOUR: 'it returns false'. Refute it at one input. -/
def fnExactValidBlockWrong : ChangeSpec := { name := "fnExactValidBlock", fn := fun _ => fun
  | [d] => { results := [.lit (.bool false)], args := [d] }
  | _ => none }
def FnExactValidBlockWrongFalsely : Prop := fnExactValidBlockRow.holds Try.pinned (OpenSpec.ofChange fnExactValidBlockWrong)

/-- 'laws.FnExactValidSum': WHATEVER THE INPUT: true; the input reads as it did. -/
def fnExactValidSumSpec : ChangeSpec := { name := "fnExactValidSum", fn := fun _ => fun
  | [d] => { results := [.lit (.bool true)], args := [d] }
  | _ => none }
def fnExactValidSumRow : OpenClaim := { program := "ytbpamifkfbcloaa", sum := "fdc5674313c81b31429bac77d64872735ae3d64cd7cf1bd6d29719cd65f3dfc1", func := "loop.example/g01169/laws.FnExactValidSum", spec := "fnExactValidSum", unfollowed := true, recurses := true, apart := false }
def FnExactValidSumSaid : Prop := fnExactValidSumRow.holds Try.pinned (OpenSpec.ofChange fnExactValidSumSpec)

/-- ITS FALSE NEIGHBOUR: 'it returns false'. Refute it at one input. -/
def fnExactValidSumWrong : ChangeSpec := { name := "fnExactValidSum", fn := fun _ => fun
  | [d] => { results := [.lit (.bool false)], args := [d] }
  | _ => none }
def FnExactValidSumWrongFalsely : Prop := fnExactValidSumRow.holds Try.pinned (OpenSpec.ofChange fnExactValidSumWrong)

/-- 'laws.FnExactCoefficientOf': WHATEVER THE INPUT: true; the input reads as it did. -/
def fnExactCoefficientOfSpec : ChangeSpec := { name := "fnExactCoefficientOf", fn := fun _ => fun
  | [d1, d2] => { results := [.lit (.bool true)], args := [d1, d2] }
  | _ => none }
def fnExactCoefficientOfRow : OpenClaim := { program := "ytbpamifkfbcloaa", sum := "fdc5674313c81b31429bac77d64872735ae3d64cd7cf1bd6d29719cd65f3dfc1", func := "loop.example/g01169/laws.FnExactCoefficientOf", spec := "fnExactCoefficientOf", unfollowed := true, recurses := true, apart := false }
def FnExactCoefficientOfSaid : Prop := fnExactCoefficientOfRow.holds Try.pinned (OpenSpec.ofChange fnExactCoefficientOfSpec)

/-- ITS FALSE NEIGHBOUR: 'it returns false'. Refute it at one input. -/
def fnExactCoefficientOfWrong : ChangeSpec := { name := "fnExactCoefficientOf", fn := fun _ => fun
  | [d1, d2] => { results := [.lit (.bool false)], args := [d1, d2] }
  | _ => none }
def FnExactCoefficientOfWrongFalsely : Prop := fnExactCoefficientOfRow.holds Try.pinned (OpenSpec.ofChange fnExactCoefficientOfWrong)

/-- 'laws.FnExactValidStatement': WHATEVER THE INPUT: true; the input reads as it did. -/
def fnExactValidStatementSpec : ChangeSpec := { name := "fnExactValidStatement", fn := fun _ => fun
  | [d] => { results := [.lit (.bool true)], args := [d] }
  | _ => none }
def fnExactValidStatementRow : OpenClaim := { program := "ytbpamifkfbcloaa", sum := "fdc5674313c81b31429bac77d64872735ae3d64cd7cf1bd6d29719cd65f3dfc1", func := "loop.example/g01169/laws.FnExactValidStatement", spec := "fnExactValidStatement", unfollowed := true, recurses := true, apart := false }
def FnExactValidStatementSaid : Prop := fnExactValidStatementRow.holds Try.pinned (OpenSpec.ofChange fnExactValidStatementSpec)

/-- ITS FALSE NEIGHBOUR: 'it returns false'. Refute it at one input. -/
def fnExactValidStatementWrong : ChangeSpec := { name := "fnExactValidStatement", fn := fun _ => fun
  | [d] => { results := [.lit (.bool false)], args := [d] }
  | _ => none }
def FnExactValidStatementWrongFalsely : Prop := fnExactValidStatementRow.holds Try.pinned (OpenSpec.ofChange fnExactValidStatementWrong)

/- THE SECOND FORM. 'bulk': how many values and letters a reading holds, each counted each time it is reached (what is shared counts as often as it is met; a slice's spare places count too). A statement '..UptoSaid' is the law's where the arguments, and the package variables that the reading takes, are together of bulk at most 1048576: NARROWER than '..Said'. Prove '..Said' where nothing that the law and all that it calls make is longer than what came in: it says more and counts as full. Else prove '..UptoSaid'. A law counts once. -/
mutual
def uptoBulk {H : Type} : DataW H → Nat
  | .lit (.string bytes) => bytes.length + 1
  | .lit _ => 1
  | .nil => 1
  | .ptr d => uptoBulk d + 1
  | .slice elems spare => uptoBulkAll elems + uptoBulkAll spare + 1
  | .agg parts => uptoBulkAll parts + 1
  | .iface _ d => uptoBulk d + 1
  | .map entries => uptoBulkEntries entries + 1
  | .held _ => 1
def uptoBulkAll {H : Type} : List (DataW H) → Nat
  | [] => 0
  | d :: r => uptoBulk d + uptoBulkAll r
def uptoBulkEntries {H : Type} : List (Lit × DataW H) → Nat
  | [] => 0
  | x :: r => uptoBulkEntry x + uptoBulkEntries r
def uptoBulkEntry {H : Type} : Lit × DataW H → Nat
  | (.string bytes, d) => bytes.length + uptoBulk d + 1
  | (_, d) => uptoBulk d + 1
 end
def uptoSmall : (H : Type) → List (DataW H) → Bool := fun _ ds => decide (uptoBulkAll ds ≤ 1048576)
def OpenSpec.upto (s : _root_.Go.ChangeSpec) : _root_.Go.OpenSpec := { _root_.Go.OpenSpec.ofChange s with cond := some uptoSmall }

/-- 'laws.FnExactSumOfFlag', WHERE WHAT IT READS IS OF BULK AT MOST 1048576: true; the input reads as it did. -/
def fnExactSumOfFlagUptoRow : OpenClaim := { program := "ytbpamifkfbcloaa", sum := "fdc5674313c81b31429bac77d64872735ae3d64cd7cf1bd6d29719cd65f3dfc1", func := "loop.example/g01169/laws.FnExactSumOfFlag", spec := "fnExactSumOfFlag", unfollowed := true, recurses := true, apart := false, narrowed := true }
def FnExactSumOfFlagUptoSaid : Prop := fnExactSumOfFlagUptoRow.holds Try.pinned (OpenSpec.upto fnExactSumOfFlagSpec)

/-- 'laws.FnExactValidBlock', WHERE WHAT IT READS IS OF BULK AT MOST 1048576: true; the input reads as it did. -/
def fnExactValidBlockUptoRow : OpenClaim := { program := "ytbpamifkfbcloaa", sum := "fdc5674313c81b31429bac77d64872735ae3d64cd7cf1bd6d29719cd65f3dfc1", func := "loop.example/g01169/laws.FnExactValidBlock", spec := "fnExactValidBlock", unfollowed := true, recurses := true, apart := false, narrowed := true }
def FnExactValidBlockUptoSaid : Prop := fnExactValidBlockUptoRow.holds Try.pinned (OpenSpec.upto fnExactValidBlockSpec)

/-- 'laws.FnExactValidSum', WHERE WHAT IT READS IS OF BULK AT MOST 1048576: true; the input reads as it did. -/
def fnExactValidSumUptoRow : OpenClaim := { program := "ytbpamifkfbcloaa", sum := "fdc5674313c81b31429bac77d64872735ae3d64cd7cf1bd6d29719cd65f3dfc1", func := "loop.example/g01169/laws.FnExactValidSum", spec := "fnExactValidSum", unfollowed := true, recurses := true, apart := false, narrowed := true }
def FnExactValidSumUptoSaid : Prop := fnExactValidSumUptoRow.holds Try.pinned (OpenSpec.upto fnExactValidSumSpec)

/-- 'laws.FnExactCoefficientOf', WHERE WHAT IT READS IS OF BULK AT MOST 1048576: true; the input reads as it did. -/
def fnExactCoefficientOfUptoRow : OpenClaim := { program := "ytbpamifkfbcloaa", sum := "fdc5674313c81b31429bac77d64872735ae3d64cd7cf1bd6d29719cd65f3dfc1", func := "loop.example/g01169/laws.FnExactCoefficientOf", spec := "fnExactCoefficientOf", unfollowed := true, recurses := true, apart := false, narrowed := true }
def FnExactCoefficientOfUptoSaid : Prop := fnExactCoefficientOfUptoRow.holds Try.pinned (OpenSpec.upto fnExactCoefficientOfSpec)

/-- 'laws.FnExactValidStatement', WHERE WHAT IT READS IS OF BULK AT MOST 1048576: true; the input reads as it did. -/
def fnExactValidStatementUptoRow : OpenClaim := { program := "ytbpamifkfbcloaa", sum := "fdc5674313c81b31429bac77d64872735ae3d64cd7cf1bd6d29719cd65f3dfc1", func := "loop.example/g01169/laws.FnExactValidStatement", spec := "fnExactValidStatement", unfollowed := true, recurses := true, apart := false, narrowed := true }
def FnExactValidStatementUptoSaid : Prop := fnExactValidStatementUptoRow.holds Try.pinned (OpenSpec.upto fnExactValidStatementSpec)

end Rows
end Go.Proofs.Ytbpamifkfbcloaa

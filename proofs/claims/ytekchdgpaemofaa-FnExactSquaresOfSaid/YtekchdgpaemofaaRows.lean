/-
  No cell of these rows narrows 'for every input' (looked for: loops, veiled, ifaces, maps, wideKeys, modest, calm, conditions, laid).
  DERIVED. THE GIVEN ROWS OF THIS SEAT. 5 by the template 'for every input the law returns true; each argument reads behind the call as it read before'; 0 by the template 'total and deterministic' (their statements: YtekchdgpaemofaaTotals.lean).
  GIVEN WITH THE SEED: the statements are not yours to turn. If you find one false, say at which input.
  Laid BY PROGRAM, IN A SANDBOX (cutbox-rows.mjs): the forced cells as the released guide's own fill.sh prints them over the translation fba5c9d4a2bb5f4f… (all of the seat's roots in one cut). By AI agents, Wed Nov 11 2026. No macro, syntax, notation, axiom, sorry.
-/
import Derived.Test.YtekchdgpaemofaaChecked
import GoSem.Claim
import GoSem.ClaimJoined
import GoSem.ClaimMapViews
import Derived.JoinedTies
import Derived.KernelRfl
namespace Go.Proofs.Ytekchdgpaemofaa
/- THE CELL 'sum', in the pinned program and in every row, IS THE sha256 OF THE DUMP (.gsa) THAT YtekchdgpaemofaaProg.lean LOADS. Nothing in Lean hashes anything: it is a label: what it is worth is what the hold of that sum in a sandbox is worth. -/
noncomputable def Try.pinned : Pinned := { name := "ytekchdgpaemofaa", sum := "fba5c9d4a2bb5f4ff0a2eb92b6e6922cde1a40ea21fccfedcd17575b421400f9", checked := Try.checked }
namespace Rows
def none {H : Type} : Left H := { results := [], args := [] }

/-- 'laws.FnExactIsPositive': WHATEVER THE INPUT: true; the input reads as it did. -/
def fnExactIsPositiveSpec : ChangeSpec := { name := "fnExactIsPositive", fn := fun _ => fun
  | [d] => { results := [.lit (.bool true)], args := [d] }
  | _ => none }
def fnExactIsPositiveRow : OpenClaim := { program := "ytekchdgpaemofaa", sum := "fba5c9d4a2bb5f4ff0a2eb92b6e6922cde1a40ea21fccfedcd17575b421400f9", func := "loop.example/g01169/laws.FnExactIsPositive", spec := "fnExactIsPositive", unfollowed := true, recurses := true, apart := false }
def FnExactIsPositiveSaid : Prop := fnExactIsPositiveRow.holds Try.pinned (OpenSpec.ofChange fnExactIsPositiveSpec)

/-- ITS FALSE NEIGHBOUR: 'it returns false'. Refute it at one input. -/
def fnExactIsPositiveWrong : ChangeSpec := { name := "fnExactIsPositive", fn := fun _ => fun
  | [d] => { results := [.lit (.bool false)], args := [d] }
  | _ => none }
def FnExactIsPositiveWrongFalsely : Prop := fnExactIsPositiveRow.holds Try.pinned (OpenSpec.ofChange fnExactIsPositiveWrong)

/-- 'laws.FnExactRankOf': WHATEVER THE INPUT: true; the input reads as it did. -/
def fnExactRankOfSpec : ChangeSpec := { name := "fnExactRankOf", fn := fun _ => fun
  | [d] => { results := [.lit (.bool true)], args := [d] }
  | _ => none }
def fnExactRankOfRow : OpenClaim := { program := "ytekchdgpaemofaa", sum := "fba5c9d4a2bb5f4ff0a2eb92b6e6922cde1a40ea21fccfedcd17575b421400f9", func := "loop.example/g01169/laws.FnExactRankOf", spec := "fnExactRankOf", unfollowed := true, recurses := true, apart := false }
def FnExactRankOfSaid : Prop := fnExactRankOfRow.holds Try.pinned (OpenSpec.ofChange fnExactRankOfSpec)

/-- ITS FALSE NEIGHBOUR: 'it returns false'. Refute it at one input. -/
def fnExactRankOfWrong : ChangeSpec := { name := "fnExactRankOf", fn := fun _ => fun
  | [d] => { results := [.lit (.bool false)], args := [d] }
  | _ => none }
def FnExactRankOfWrongFalsely : Prop := fnExactRankOfRow.holds Try.pinned (OpenSpec.ofChange fnExactRankOfWrong)

/-- 'laws.FnExactSquaresOf': WHATEVER THE INPUT: true; the input reads as it did. -/
def fnExactSquaresOfSpec : ChangeSpec := { name := "fnExactSquaresOf", fn := fun _ => fun
  | [d] => { results := [.lit (.bool true)], args := [d] }
  | _ => none }
def fnExactSquaresOfRow : OpenClaim := { program := "ytekchdgpaemofaa", sum := "fba5c9d4a2bb5f4ff0a2eb92b6e6922cde1a40ea21fccfedcd17575b421400f9", func := "loop.example/g01169/laws.FnExactSquaresOf", spec := "fnExactSquaresOf", unfollowed := true, recurses := true, apart := false }
def FnExactSquaresOfSaid : Prop := fnExactSquaresOfRow.holds Try.pinned (OpenSpec.ofChange fnExactSquaresOfSpec)

/-- ITS FALSE NEIGHBOUR: 'it returns false'. Refute it at one input. -/
def fnExactSquaresOfWrong : ChangeSpec := { name := "fnExactSquaresOf", fn := fun _ => fun
  | [d] => { results := [.lit (.bool false)], args := [d] }
  | _ => none }
def FnExactSquaresOfWrongFalsely : Prop := fnExactSquaresOfRow.holds Try.pinned (OpenSpec.ofChange fnExactSquaresOfWrong)

/-- 'laws.FnExactBlockOfSquares': WHATEVER THE INPUT: true; the input reads as it did. -/
def fnExactBlockOfSquaresSpec : ChangeSpec := { name := "fnExactBlockOfSquares", fn := fun _ => fun
  | [d1, d2, d3] => { results := [.lit (.bool true)], args := [d1, d2, d3] }
  | _ => none }
def fnExactBlockOfSquaresRow : OpenClaim := { program := "ytekchdgpaemofaa", sum := "fba5c9d4a2bb5f4ff0a2eb92b6e6922cde1a40ea21fccfedcd17575b421400f9", func := "loop.example/g01169/laws.FnExactBlockOfSquares", spec := "fnExactBlockOfSquares", unfollowed := true, recurses := true, apart := false }
def FnExactBlockOfSquaresSaid : Prop := fnExactBlockOfSquaresRow.holds Try.pinned (OpenSpec.ofChange fnExactBlockOfSquaresSpec)

/-- ITS FALSE NEIGHBOUR: 'it returns false'. Refute it at one input. -/
def fnExactBlockOfSquaresWrong : ChangeSpec := { name := "fnExactBlockOfSquares", fn := fun _ => fun
  | [d1, d2, d3] => { results := [.lit (.bool false)], args := [d1, d2, d3] }
  | _ => none }
def FnExactBlockOfSquaresWrongFalsely : Prop := fnExactBlockOfSquaresRow.holds Try.pinned (OpenSpec.ofChange fnExactBlockOfSquaresWrong)

/-- 'laws.FnExactExtensionsOf': WHATEVER THE INPUT: true; the input reads as it did. -/
def fnExactExtensionsOfSpec : ChangeSpec := { name := "fnExactExtensionsOf", fn := fun _ => fun
  | [d1, d2] => { results := [.lit (.bool true)], args := [d1, d2] }
  | _ => none }
def fnExactExtensionsOfRow : OpenClaim := { program := "ytekchdgpaemofaa", sum := "fba5c9d4a2bb5f4ff0a2eb92b6e6922cde1a40ea21fccfedcd17575b421400f9", func := "loop.example/g01169/laws.FnExactExtensionsOf", spec := "fnExactExtensionsOf", unfollowed := true, recurses := true, apart := false }
def FnExactExtensionsOfSaid : Prop := fnExactExtensionsOfRow.holds Try.pinned (OpenSpec.ofChange fnExactExtensionsOfSpec)

/-- ITS FALSE NEIGHBOUR: 'it returns false'. Refute it at one input. -/
def fnExactExtensionsOfWrong : ChangeSpec := { name := "fnExactExtensionsOf", fn := fun _ => fun
  | [d1, d2] => { results := [.lit (.bool false)], args := [d1, d2] }
  | _ => none }
def FnExactExtensionsOfWrongFalsely : Prop := fnExactExtensionsOfRow.holds Try.pinned (OpenSpec.ofChange fnExactExtensionsOfWrong)

/- THE SECOND FORM. 'bulk': how many values and letters a reading holds, each counted each time it is reached (what is shared counts as often as it is met; a slice's spare places count too). A statement '..UptoSaid' is the law's where the arguments, and the package variables that the reading takes, are together of bulk at most 1048576: NARROWER than '..Said'. Prove '..Said' where nothing that the law and all that it calls make is longer than what came in: it says more and counts as full. Else prove '..UptoSaid'. A law counts once. -/
mutual
def uptoBulk {H : Type} : DataW H → Nat
  | .lit (.string bytes) => bytes.length + 1
  | .lit _ => 1
  | .nil => 1
  | .ptr d => uptoBulk d + 1
  | .slice elems spare => uptoBulkAll elems + uptoBulkAll spare + 1
  | .agg parts => uptoBulkAll parts + 1
  | .iface _ d => uptoBulk d + 1
  | .map entries => uptoBulkEntries entries + 1
  | .held _ => 1
def uptoBulkAll {H : Type} : List (DataW H) → Nat
  | [] => 0
  | d :: r => uptoBulk d + uptoBulkAll r
def uptoBulkEntries {H : Type} : List (Lit × DataW H) → Nat
  | [] => 0
  | x :: r => uptoBulkEntry x + uptoBulkEntries r
def uptoBulkEntry {H : Type} : Lit × DataW H → Nat
  | (.string bytes, d) => bytes.length + uptoBulk d + 1
  | (_, d) => uptoBulk d + 1
 end
def uptoSmall : (H : Type) → List (DataW H) → Bool := fun _ ds => decide (uptoBulkAll ds ≤ 1048576)
def OpenSpec.upto (s : _root_.Go.ChangeSpec) : _root_.Go.OpenSpec := { _root_.Go.OpenSpec.ofChange s with cond := some uptoSmall }

/-- 'laws.FnExactIsPositive', WHERE WHAT IT READS IS OF BULK AT MOST 1048576: true; the input reads as it did. -/
def fnExactIsPositiveUptoRow : OpenClaim := { program := "ytekchdgpaemofaa", sum := "fba5c9d4a2bb5f4ff0a2eb92b6e6922cde1a40ea21fccfedcd17575b421400f9", func := "loop.example/g01169/laws.FnExactIsPositive", spec := "fnExactIsPositive", unfollowed := true, recurses := true, apart := false, narrowed := true }
def FnExactIsPositiveUptoSaid : Prop := fnExactIsPositiveUptoRow.holds Try.pinned (OpenSpec.upto fnExactIsPositiveSpec)

/-- 'laws.FnExactRankOf', WHERE WHAT IT READS IS OF BULK AT MOST 1048576: true; the input reads as it did. -/
def fnExactRankOfUptoRow : OpenClaim := { program := "ytekchdgpaemofaa", sum := "fba5c9d4a2bb5f4ff0a2eb92b6e6922cde1a40ea21fccfedcd17575b421400f9", func := "loop.example/g01169/laws.FnExactRankOf", spec := "fnExactRankOf", unfollowed := true, recurses := true, apart := false, narrowed := true }
def FnExactRankOfUptoSaid : Prop := fnExactRankOfUptoRow.holds Try.pinned (OpenSpec.upto fnExactRankOfSpec)

/-- 'laws.FnExactSquaresOf', WHERE WHAT IT READS IS OF BULK AT MOST 1048576: true; the input reads as it did. -/
def fnExactSquaresOfUptoRow : OpenClaim := { program := "ytekchdgpaemofaa", sum := "fba5c9d4a2bb5f4ff0a2eb92b6e6922cde1a40ea21fccfedcd17575b421400f9", func := "loop.example/g01169/laws.FnExactSquaresOf", spec := "fnExactSquaresOf", unfollowed := true, recurses := true, apart := false, narrowed := true }
def FnExactSquaresOfUptoSaid : Prop := fnExactSquaresOfUptoRow.holds Try.pinned (OpenSpec.upto fnExactSquaresOfSpec)

/-- 'laws.FnExactBlockOfSquares', WHERE WHAT IT READS IS OF BULK AT MOST 1048576: true; the input reads as it did. -/
def fnExactBlockOfSquaresUptoRow : OpenClaim := { program := "ytekchdgpaemofaa", sum := "fba5c9d4a2bb5f4ff0a2eb92b6e6922cde1a40ea21fccfedcd17575b421400f9", func := "loop.example/g01169/laws.FnExactBlockOfSquares", spec := "fnExactBlockOfSquares", unfollowed := true, recurses := true, apart := false, narrowed := true }
def FnExactBlockOfSquaresUptoSaid : Prop := fnExactBlockOfSquaresUptoRow.holds Try.pinned (OpenSpec.upto fnExactBlockOfSquaresSpec)

/-- 'laws.FnExactExtensionsOf', WHERE WHAT IT READS IS OF BULK AT MOST 1048576: true; the input reads as it did. -/
def fnExactExtensionsOfUptoRow : OpenClaim := { program := "ytekchdgpaemofaa", sum := "fba5c9d4a2bb5f4ff0a2eb92b6e6922cde1a40ea21fccfedcd17575b421400f9", func := "loop.example/g01169/laws.FnExactExtensionsOf", spec := "fnExactExtensionsOf", unfollowed := true, recurses := true, apart := false, narrowed := true }
def FnExactExtensionsOfUptoSaid : Prop := fnExactExtensionsOfUptoRow.holds Try.pinned (OpenSpec.upto fnExactExtensionsOfSpec)

end Rows
end Go.Proofs.Ytekchdgpaemofaa

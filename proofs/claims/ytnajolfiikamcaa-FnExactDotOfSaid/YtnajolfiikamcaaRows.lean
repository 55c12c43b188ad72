/-
  No cell of these rows narrows 'for every input' (looked for: loops, veiled, ifaces, maps, wideKeys, modest, calm, conditions, laid).
  DERIVED. THE GIVEN ROWS OF THIS SEAT. 12 by the template 'for every input the law returns true; each argument reads behind the call as it read before'; 0 by the template 'total and deterministic' (their statements: YtnajolfiikamcaaTotals.lean).
  GIVEN WITH THE SEED: the statements are not yours to turn. If you find one false, say at which input.
  Laid BY PROGRAM, IN A SANDBOX (cutbox-rows.mjs): the forced cells as the released guide's own fill.sh prints them over the translation 583df58bc4993daa… (all of the seat's roots in one cut). By AI agents, Wed Nov 11 2026. No macro, syntax, notation, axiom, sorry.
-/
import Derived.Test.YtnajolfiikamcaaChecked
import GoSem.Claim
import GoSem.ClaimJoined
import GoSem.ClaimMapViews
import Derived.JoinedTies
import Derived.KernelRfl
namespace Go.Proofs.Ytnajolfiikamcaa
/- THE CELL 'sum', in the pinned program and in every row, IS THE sha256 OF THE DUMP (.gsa) THAT YtnajolfiikamcaaProg.lean LOADS. Nothing in Lean hashes anything: it is a label: what it is worth is what the hold of that sum in a sandbox is worth. -/
noncomputable def Try.pinned : Pinned := { name := "ytnajolfiikamcaa", sum := "583df58bc4993daac6553008dd38e2d70a06b8dc70e9abe2c0bcb0a2af6312f8", checked := Try.checked }
namespace Rows
def none {H : Type} : Left H := { results := [], args := [] }

/-- 'laws.FnExactFractionOf': WHATEVER THE INPUT: true; the input reads as it did. -/
def fnExactFractionOfSpec : ChangeSpec := { name := "fnExactFractionOf", fn := fun _ => fun
  | [d1, d2] => { results := [.lit (.bool true)], args := [d1, d2] }
  | _ => none }
def fnExactFractionOfRow : OpenClaim := { program := "ytnajolfiikamcaa", sum := "583df58bc4993daac6553008dd38e2d70a06b8dc70e9abe2c0bcb0a2af6312f8", func := "loop.example/g01169/laws.FnExactFractionOf", spec := "fnExactFractionOf", apart := false }
def FnExactFractionOfSaid : Prop := fnExactFractionOfRow.holds Try.pinned (OpenSpec.ofChange fnExactFractionOfSpec)

/-- ITS FALSE NEIGHBOUR: 'it returns false'. Refute it at one input. -/
def fnExactFractionOfWrong : ChangeSpec := { name := "fnExactFractionOf", fn := fun _ => fun
  | [d1, d2] => { results := [.lit (.bool false)], args := [d1, d2] }
  | _ => none }
def FnExactFractionOfWrongFalsely : Prop := fnExactFractionOfRow.holds Try.pinned (OpenSpec.ofChange fnExactFractionOfWrong)

/-- 'laws.FnExactMulFractions': WHATEVER THE INPUT: true; the input reads as it did. -/
def fnExactMulFractionsSpec : ChangeSpec := { name := "fnExactMulFractions", fn := fun _ => fun
  | [d1, d2] => { results := [.lit (.bool true)], args := [d1, d2] }
  | _ => none }
def fnExactMulFractionsRow : OpenClaim := { program := "ytnajolfiikamcaa", sum := "583df58bc4993daac6553008dd38e2d70a06b8dc70e9abe2c0bcb0a2af6312f8", func := "loop.example/g01169/laws.FnExactMulFractions", spec := "fnExactMulFractions", unfollowed := true, recurses := true, apart := false }
def FnExactMulFractionsSaid : Prop := fnExactMulFractionsRow.holds Try.pinned (OpenSpec.ofChange fnExactMulFractionsSpec)

/-- ITS FALSE NEIGHBOUR: 'it returns false'. Refute it at one input. -/
def fnExactMulFractionsWrong : ChangeSpec := { name := "fnExactMulFractions", fn := fun _ => fun
  | [d1, d2] => { results := [.lit (.bool false)], args := [d1, d2] }
  | _ => none }
def FnExactMulFractionsWrongFalsely : Prop := fnExactMulFractionsRow.holds Try.pinned (OpenSpec.ofChange fnExactMulFractionsWrong)

/-- 'laws.FnExactAddFractions': WHATEVER THE INPUT: true; the input reads as it did. -/
def fnExactAddFractionsSpec : ChangeSpec := { name := "fnExactAddFractions", fn := fun _ => fun
  | [d1, d2] => { results := [.lit (.bool true)], args := [d1, d2] }
  | _ => none }
def fnExactAddFractionsRow : OpenClaim := { program := "ytnajolfiikamcaa", sum := "583df58bc4993daac6553008dd38e2d70a06b8dc70e9abe2c0bcb0a2af6312f8", func := "loop.example/g01169/laws.FnExactAddFractions", spec := "fnExactAddFractions", unfollowed := true, recurses := true, apart := false }
def FnExactAddFractionsSaid : Prop := fnExactAddFractionsRow.holds Try.pinned (OpenSpec.ofChange fnExactAddFractionsSpec)

/-- ITS FALSE NEIGHBOUR: 'it returns false'. Refute it at one input. -/
def fnExactAddFractionsWrong : ChangeSpec := { name := "fnExactAddFractions", fn := fun _ => fun
  | [d1, d2] => { results := [.lit (.bool false)], args := [d1, d2] }
  | _ => none }
def FnExactAddFractionsWrongFalsely : Prop := fnExactAddFractionsRow.holds Try.pinned (OpenSpec.ofChange fnExactAddFractionsWrong)

/-- 'laws.FnExactSubFractions': WHATEVER THE INPUT: true; the input reads as it did. -/
def fnExactSubFractionsSpec : ChangeSpec := { name := "fnExactSubFractions", fn := fun _ => fun
  | [d1, d2] => { results := [.lit (.bool true)], args := [d1, d2] }
  | _ => none }
def fnExactSubFractionsRow : OpenClaim := { program := "ytnajolfiikamcaa", sum := "583df58bc4993daac6553008dd38e2d70a06b8dc70e9abe2c0bcb0a2af6312f8", func := "loop.example/g01169/laws.FnExactSubFractions", spec := "fnExactSubFractions", unfollowed := true, recurses := true, apart := false }
def FnExactSubFractionsSaid : Prop := fnExactSubFractionsRow.holds Try.pinned (OpenSpec.ofChange fnExactSubFractionsSpec)

/-- ITS FALSE NEIGHBOUR: 'it returns false'. Refute it at one input. -/
def fnExactSubFractionsWrong : ChangeSpec := { name := "fnExactSubFractions", fn := fun _ => fun
  | [d1, d2] => { results := [.lit (.bool false)], args := [d1, d2] }
  | _ => none }
def FnExactSubFractionsWrongFalsely : Prop := fnExactSubFractionsRow.holds Try.pinned (OpenSpec.ofChange fnExactSubFractionsWrong)

/-- 'laws.FnExactDivFractions': WHATEVER THE INPUT: true; the input reads as it did. -/
def fnExactDivFractionsSpec : ChangeSpec := { name := "fnExactDivFractions", fn := fun _ => fun
  | [d1, d2] => { results := [.lit (.bool true)], args := [d1, d2] }
  | _ => none }
def fnExactDivFractionsRow : OpenClaim := { program := "ytnajolfiikamcaa", sum := "583df58bc4993daac6553008dd38e2d70a06b8dc70e9abe2c0bcb0a2af6312f8", func := "loop.example/g01169/laws.FnExactDivFractions", spec := "fnExactDivFractions", unfollowed := true, recurses := true, apart := false }
def FnExactDivFractionsSaid : Prop := fnExactDivFractionsRow.holds Try.pinned (OpenSpec.ofChange fnExactDivFractionsSpec)

/-- ITS FALSE NEIGHBOUR: 'it returns false'. Refute it at one input. -/
def fnExactDivFractionsWrong : ChangeSpec := { name := "fnExactDivFractions", fn := fun _ => fun
  | [d1, d2] => { results := [.lit (.bool false)], args := [d1, d2] }
  | _ => none }
def FnExactDivFractionsWrongFalsely : Prop := fnExactDivFractionsRow.holds Try.pinned (OpenSpec.ofChange fnExactDivFractionsWrong)

/-- 'laws.FnExactSameSum': WHATEVER THE INPUT: true; the input reads as it did. -/
def fnExactSameSumSpec : ChangeSpec := { name := "fnExactSameSum", fn := fun _ => fun
  | [d1, d2] => { results := [.lit (.bool true)], args := [d1, d2] }
  | _ => none }
def fnExactSameSumRow : OpenClaim := { program := "ytnajolfiikamcaa", sum := "583df58bc4993daac6553008dd38e2d70a06b8dc70e9abe2c0bcb0a2af6312f8", func := "loop.example/g01169/laws.FnExactSameSum", spec := "fnExactSameSum", apart := false }
def FnExactSameSumSaid : Prop := fnExactSameSumRow.holds Try.pinned (OpenSpec.ofChange fnExactSameSumSpec)

/-- ITS FALSE NEIGHBOUR: 'it returns false'. Refute it at one input. -/
def fnExactSameSumWrong : ChangeSpec := { name := "fnExactSameSum", fn := fun _ => fun
  | [d1, d2] => { results := [.lit (.bool false)], args := [d1, d2] }
  | _ => none }
def FnExactSameSumWrongFalsely : Prop := fnExactSameSumRow.holds Try.pinned (OpenSpec.ofChange fnExactSameSumWrong)

/-- 'laws.FnExtended': WHATEVER THE INPUT: true; the input reads as it did. -/
def fnExtendedSpec : ChangeSpec := { name := "fnExtended", fn := fun _ => fun
  | [d1, d2] => { results := [.lit (.bool true)], args := [d1, d2] }
  | _ => none }
def fnExtendedRow : OpenClaim := { program := "ytnajolfiikamcaa", sum := "583df58bc4993daac6553008dd38e2d70a06b8dc70e9abe2c0bcb0a2af6312f8", func := "loop.example/g01169/laws.FnExtended", spec := "fnExtended", unfollowed := true, recurses := true, apart := false }
def FnExtendedSaid : Prop := fnExtendedRow.holds Try.pinned (OpenSpec.ofChange fnExtendedSpec)

/-- ITS FALSE NEIGHBOUR: 'it returns false'. Refute it at one input. -/
def fnExtendedWrong : ChangeSpec := { name := "fnExtended", fn := fun _ => fun
  | [d1, d2] => { results := [.lit (.bool false)], args := [d1, d2] }
  | _ => none }
def FnExtendedWrongFalsely : Prop := fnExtendedRow.holds Try.pinned (OpenSpec.ofChange fnExtendedWrong)

/-- 'laws.FnExactSumOfFractions': WHATEVER THE INPUT: true; the input reads as it did. -/
def fnExactSumOfFractionsSpec : ChangeSpec := { name := "fnExactSumOfFractions", fn := fun _ => fun
  | [d] => { results := [.lit (.bool true)], args := [d] }
  | _ => none }
def fnExactSumOfFractionsRow : OpenClaim := { program := "ytnajolfiikamcaa", sum := "583df58bc4993daac6553008dd38e2d70a06b8dc70e9abe2c0bcb0a2af6312f8", func := "loop.example/g01169/laws.FnExactSumOfFractions", spec := "fnExactSumOfFractions", unfollowed := true, recurses := true, apart := false }
def FnExactSumOfFractionsSaid : Prop := fnExactSumOfFractionsRow.holds Try.pinned (OpenSpec.ofChange fnExactSumOfFractionsSpec)

/-- ITS FALSE NEIGHBOUR: 'it returns false'. Refute it at one input. -/
def fnExactSumOfFractionsWrong : ChangeSpec := { name := "fnExactSumOfFractions", fn := fun _ => fun
  | [d] => { results := [.lit (.bool false)], args := [d] }
  | _ => none }
def FnExactSumOfFractionsWrongFalsely : Prop := fnExactSumOfFractionsRow.holds Try.pinned (OpenSpec.ofChange fnExactSumOfFractionsWrong)

/-- 'laws.FnExactZeroSum': WHATEVER THE INPUT: true; the input reads as it did. -/
def fnExactZeroSumSpec : ChangeSpec := { name := "fnExactZeroSum", fn := fun _ => fun
  | [d1, d2] => { results := [.lit (.bool true)], args := [d1, d2] }
  | _ => none }
def fnExactZeroSumRow : OpenClaim := { program := "ytnajolfiikamcaa", sum := "583df58bc4993daac6553008dd38e2d70a06b8dc70e9abe2c0bcb0a2af6312f8", func := "loop.example/g01169/laws.FnExactZeroSum", spec := "fnExactZeroSum", apart := false }
def FnExactZeroSumSaid : Prop := fnExactZeroSumRow.holds Try.pinned (OpenSpec.ofChange fnExactZeroSumSpec)

/-- ITS FALSE NEIGHBOUR: 'it returns false'. Refute it at one input. -/
def fnExactZeroSumWrong : ChangeSpec := { name := "fnExactZeroSum", fn := fun _ => fun
  | [d1, d2] => { results := [.lit (.bool false)], args := [d1, d2] }
  | _ => none }
def FnExactZeroSumWrongFalsely : Prop := fnExactZeroSumRow.holds Try.pinned (OpenSpec.ofChange fnExactZeroSumWrong)

/-- 'laws.FnExactDotOf': WHATEVER THE INPUT: true; the input reads as it did. -/
def fnExactDotOfSpec : ChangeSpec := { name := "fnExactDotOf", fn := fun _ => fun
  | [d1, d2] => { results := [.lit (.bool true)], args := [d1, d2] }
  | _ => none }
def fnExactDotOfRow : OpenClaim := { program := "ytnajolfiikamcaa", sum := "583df58bc4993daac6553008dd38e2d70a06b8dc70e9abe2c0bcb0a2af6312f8", func := "loop.example/g01169/laws.FnExactDotOf", spec := "fnExactDotOf", unfollowed := true, recurses := true, apart := false }
def FnExactDotOfSaid : Prop := fnExactDotOfRow.holds Try.pinned (OpenSpec.ofChange fnExactDotOfSpec)

/-- ITS FALSE NEIGHBOUR: 'it returns false'. Refute it at one input. -/
def fnExactDotOfWrong : ChangeSpec := { name := "fnExactDotOf", fn := fun _ => fun
  | [d1, d2] => { results := [.lit (.bool false)], args := [d1, d2] }
  | _ => none }
def FnExactDotOfWrongFalsely : Prop := fnExactDotOfRow.holds Try.pinned (OpenSpec.ofChange fnExactDotOfWrong)

/-- 'laws.FnExactSameStatement': WHATEVER THE INPUT: true; the input reads as it did. -/
def fnExactSameStatementSpec : ChangeSpec := { name := "fnExactSameStatement", fn := fun _ => fun
  | [d1, d2] => { results := [.lit (.bool true)], args := [d1, d2] }
  | _ => none }
def fnExactSameStatementRow : OpenClaim := { program := "ytnajolfiikamcaa", sum := "583df58bc4993daac6553008dd38e2d70a06b8dc70e9abe2c0bcb0a2af6312f8", func := "loop.example/g01169/laws.FnExactSameStatement", spec := "fnExactSameStatement", apart := false }
def FnExactSameStatementSaid : Prop := fnExactSameStatementRow.holds Try.pinned (OpenSpec.ofChange fnExactSameStatementSpec)

/-- ITS FALSE NEIGHBOUR: 'it returns false'. Refute it at one input. -/
def fnExactSameStatementWrong : ChangeSpec := { name := "fnExactSameStatement", fn := fun _ => fun
  | [d1, d2] => { results := [.lit (.bool false)], args := [d1, d2] }
  | _ => none }
def FnExactSameStatementWrongFalsely : Prop := fnExactSameStatementRow.holds Try.pinned (OpenSpec.ofChange fnExactSameStatementWrong)

/-- 'laws.FnExactFormOf': WHATEVER THE INPUT: true; the input reads as it did. -/
def fnExactFormOfSpec : ChangeSpec := { name := "fnExactFormOf", fn := fun _ => fun
  | [d1, d2] => { results := [.lit (.bool true)], args := [d1, d2] }
  | _ => none }
def fnExactFormOfRow : OpenClaim := { program := "ytnajolfiikamcaa", sum := "583df58bc4993daac6553008dd38e2d70a06b8dc70e9abe2c0bcb0a2af6312f8", func := "loop.example/g01169/laws.FnExactFormOf", spec := "fnExactFormOf", unfollowed := true, recurses := true, apart := false }
def FnExactFormOfSaid : Prop := fnExactFormOfRow.holds Try.pinned (OpenSpec.ofChange fnExactFormOfSpec)

/-- ITS FALSE NEIGHBOUR: 'it returns false'. Refute it at one input. -/
def fnExactFormOfWrong : ChangeSpec := { name := "fnExactFormOf", fn := fun _ => fun
  | [d1, d2] => { results := [.lit (.bool false)], args := [d1, d2] }
  | _ => none }
def FnExactFormOfWrongFalsely : Prop := fnExactFormOfRow.holds Try.pinned (OpenSpec.ofChange fnExactFormOfWrong)

/- THE SECOND FORM. 'bulk': how many values and letters a reading holds, each counted each time it is reached (what is shared counts as often as it is met; a slice's spare places count too). A statement '..UptoSaid' is the law's where the arguments, and the package variables that the reading takes, are together of bulk at most 1048576: NARROWER than '..Said'. Prove '..Said' where nothing that the law and all that it calls make is longer than what came in: it says more and counts as full. Else prove '..UptoSaid'. A law counts once. -/
mutual
def uptoBulk {H : Type} : DataW H → Nat
  | .lit (.string bytes) => bytes.length + 1
  | .lit _ => 1
  | .nil => 1
  | .ptr d => uptoBulk d + 1
  | .slice elems spare => uptoBulkAll elems + uptoBulkAll spare + 1
  | .agg parts => uptoBulkAll parts + 1
  | .iface _ d => uptoBulk d + 1
  | .map entries => uptoBulkEntries entries + 1
  | .held _ => 1
def uptoBulkAll {H : Type} : List (DataW H) → Nat
  | [] => 0
  | d :: r => uptoBulk d + uptoBulkAll r
def uptoBulkEntries {H : Type} : List (Lit × DataW H) → Nat
  | [] => 0
  | x :: r => uptoBulkEntry x + uptoBulkEntries r
def uptoBulkEntry {H : Type} : Lit × DataW H → Nat
  | (.string bytes, d) => bytes.length + uptoBulk d + 1
  | (_, d) => uptoBulk d + 1
 end
def uptoSmall : (H : Type) → List (DataW H) → Bool := fun _ ds => decide (uptoBulkAll ds ≤ 1048576)
def OpenSpec.upto (s : _root_.Go.ChangeSpec) : _root_.Go.OpenSpec := { _root_.Go.OpenSpec.ofChange s with cond := some uptoSmall }

/-- 'laws.FnExactFractionOf', WHERE WHAT IT READS IS OF BULK AT MOST 1048576: true; the input reads as it did. -/
def fnExactFractionOfUptoRow : OpenClaim := { program := "ytnajolfiikamcaa", sum := "583df58bc4993daac6553008dd38e2d70a06b8dc70e9abe2c0bcb0a2af6312f8", func := "loop.example/g01169/laws.FnExactFractionOf", spec := "fnExactFractionOf", apart := false, narrowed := true }
def FnExactFractionOfUptoSaid : Prop := fnExactFractionOfUptoRow.holds Try.pinned (OpenSpec.upto fnExactFractionOfSpec)

/-- 'laws.FnExactMulFractions', WHERE WHAT IT READS IS OF BULK AT MOST 1048576: true; the input reads as it did. -/
def fnExactMulFractionsUptoRow : OpenClaim := { program := "ytnajolfiikamcaa", sum := "583df58bc4993daac6553008dd38e2d70a06b8dc70e9abe2c0bcb0a2af6312f8", func := "loop.example/g01169/laws.FnExactMulFractions", spec := "fnExactMulFractions", unfollowed := true, recurses := true, apart := false, narrowed := true }
def FnExactMulFractionsUptoSaid : Prop := fnExactMulFractionsUptoRow.holds Try.pinned (OpenSpec.upto fnExactMulFractionsSpec)

/-- 'laws.FnExactAddFractions', WHERE WHAT IT READS IS OF BULK AT MOST 1048576: true; the input reads as it did. -/
def fnExactAddFractionsUptoRow : OpenClaim := { program := "ytnajolfiikamcaa", sum := "583df58bc4993daac6553008dd38e2d70a06b8dc70e9abe2c0bcb0a2af6312f8", func := "loop.example/g01169/laws.FnExactAddFractions", spec := "fnExactAddFractions", unfollowed := true, recurses := true, apart := false, narrowed := true }
def FnExactAddFractionsUptoSaid : Prop := fnExactAddFractionsUptoRow.holds Try.pinned (OpenSpec.upto fnExactAddFractionsSpec)

/-- 'laws.FnExactSubFractions', WHERE WHAT IT READS IS OF BULK AT MOST 1048576: true; the input reads as it did. -/
def fnExactSubFractionsUptoRow : OpenClaim := { program := "ytnajolfiikamcaa", sum := "583df58bc4993daac6553008dd38e2d70a06b8dc70e9abe2c0bcb0a2af6312f8", func := "loop.example/g01169/laws.FnExactSubFractions", spec := "fnExactSubFractions", unfollowed := true, recurses := true, apart := false, narrowed := true }
def FnExactSubFractionsUptoSaid : Prop := fnExactSubFractionsUptoRow.holds Try.pinned (OpenSpec.upto fnExactSubFractionsSpec)

/-- 'laws.FnExactDivFractions', WHERE WHAT IT READS IS OF BULK AT MOST 1048576: true; the input reads as it did. -/
def fnExactDivFractionsUptoRow : OpenClaim := { program := "ytnajolfiikamcaa", sum := "583df58bc4993daac6553008dd38e2d70a06b8dc70e9abe2c0bcb0a2af6312f8", func := "loop.example/g01169/laws.FnExactDivFractions", spec := "fnExactDivFractions", unfollowed := true, recurses := true, apart := false, narrowed := true }
def FnExactDivFractionsUptoSaid : Prop := fnExactDivFractionsUptoRow.holds Try.pinned (OpenSpec.upto fnExactDivFractionsSpec)

/-- 'laws.FnExactSameSum', WHERE WHAT IT READS IS OF BULK AT MOST 1048576: true; the input reads as it did. -/
def fnExactSameSumUptoRow : OpenClaim := { program := "ytnajolfiikamcaa", sum := "583df58bc4993daac6553008dd38e2d70a06b8dc70e9abe2c0bcb0a2af6312f8", func := "loop.example/g01169/laws.FnExactSameSum", spec := "fnExactSameSum", apart := false, narrowed := true }
def FnExactSameSumUptoSaid : Prop := fnExactSameSumUptoRow.holds Try.pinned (OpenSpec.upto fnExactSameSumSpec)

/-- 'laws.FnExtended', WHERE WHAT IT READS IS OF BULK AT MOST 1048576: true; the input reads as it did. -/
def fnExtendedUptoRow : OpenClaim := { program := "ytnajolfiikamcaa", sum := "583df58bc4993daac6553008dd38e2d70a06b8dc70e9abe2c0bcb0a2af6312f8", func := "loop.example/g01169/laws.FnExtended", spec := "fnExtended", unfollowed := true, recurses := true, apart := false, narrowed := true }
def FnExtendedUptoSaid : Prop := fnExtendedUptoRow.holds Try.pinned (OpenSpec.upto fnExtendedSpec)

/-- 'laws.FnExactSumOfFractions', WHERE WHAT IT READS IS OF BULK AT MOST 1048576: true; the input reads as it did. -/
def fnExactSumOfFractionsUptoRow : OpenClaim := { program := "ytnajolfiikamcaa", sum := "583df58bc4993daac6553008dd38e2d70a06b8dc70e9abe2c0bcb0a2af6312f8", func := "loop.example/g01169/laws.FnExactSumOfFractions", spec := "fnExactSumOfFractions", unfollowed := true, recurses := true, apart := false, narrowed := true }
def FnExactSumOfFractionsUptoSaid : Prop := fnExactSumOfFractionsUptoRow.holds Try.pinned (OpenSpec.upto fnExactSumOfFractionsSpec)

/-- 'laws.FnExactZeroSum', WHERE WHAT IT READS IS OF BULK AT MOST 1048576: true; the input reads as it did. -/
def fnExactZeroSumUptoRow : OpenClaim := { program := "ytnajolfiikamcaa", sum := "583df58bc4993daac6553008dd38e2d70a06b8dc70e9abe2c0bcb0a2af6312f8", func := "loop.example/g01169/laws.FnExactZeroSum", spec := "fnExactZeroSum", apart := false, narrowed := true }
def FnExactZeroSumUptoSaid : Prop := fnExactZeroSumUptoRow.holds Try.pinned (OpenSpec.upto fnExactZeroSumSpec)

/-- 'laws.FnExactDotOf', WHERE WHAT IT READS IS OF BULK AT MOST 1048576: true; the input reads as it did. -/
def fnExactDotOfUptoRow : OpenClaim := { program := "ytnajolfiikamcaa", sum := "583df58bc4993daac6553008dd38e2d70a06b8dc70e9abe2c0bcb0a2af6312f8", func := "loop.example/g01169/laws.FnExactDotOf", spec := "fnExactDotOf", unfollowed := true, recurses := true, apart := false, narrowed := true }
def FnExactDotOfUptoSaid : Prop := fnExactDotOfUptoRow.holds Try.pinned (OpenSpec.upto fnExactDotOfSpec)

/-- 'laws.FnExactSameStatement', WHERE WHAT IT READS IS OF BULK AT MOST 1048576: true; the input reads as it did. -/
def fnExactSameStatementUptoRow : OpenClaim := { program := "ytnajolfiikamcaa", sum := "583df58bc4993daac6553008dd38e2d70a06b8dc70e9abe2c0bcb0a2af6312f8", func := "loop.example/g01169/laws.FnExactSameStatement", spec := "fnExactSameStatement", apart := false, narrowed := true }
def FnExactSameStatementUptoSaid : Prop := fnExactSameStatementUptoRow.holds Try.pinned (OpenSpec.upto fnExactSameStatementSpec)

/-- 'laws.FnExactFormOf', WHERE WHAT IT READS IS OF BULK AT MOST 1048576: true; the input reads as it did. -/
def fnExactFormOfUptoRow : OpenClaim := { program := "ytnajolfiikamcaa", sum := "583df58bc4993daac6553008dd38e2d70a06b8dc70e9abe2c0bcb0a2af6312f8", func := "loop.example/g01169/laws.FnExactFormOf", spec := "fnExactFormOf", unfollowed := true, recurses := true, apart := false, narrowed := true }
def FnExactFormOfUptoSaid : Prop := fnExactFormOfUptoRow.holds Try.pinned (OpenSpec.upto fnExactFormOfSpec)

end Rows
end Go.Proofs.Ytnajolfiikamcaa

/-
  No cell of these rows narrows 'for every input' (looked for: loops, veiled, ifaces, maps, wideKeys, modest, calm, conditions, laid).
  DERIVED. THE GIVEN ROWS OF THIS SEAT. 12 by the template 'for every input the law returns true; each argument reads behind the call as it read before'; 0 by the template 'total and deterministic' (their statements: YtjpnjokaeojnjaaTotals.lean).
  GIVEN WITH THE SEED: the statements are not yours to turn. If you find one false, say at which input.
  Laid BY PROGRAM, IN A SANDBOX (cutbox-rows.mjs): the forced cells as the released guide's own fill.sh prints them over the translation 243da5c209deb2d6… (all of the seat's roots in one cut). By AI agents, Wed Nov 11 2026. No macro, syntax, notation, axiom, sorry.
-/
import Derived.Test.YtjpnjokaeojnjaaChecked
import GoSem.Claim
import GoSem.ClaimJoined
import GoSem.ClaimMapViews
import Derived.JoinedTies
import Derived.KernelRfl
namespace Go.Proofs.Ytjpnjokaeojnjaa
/- THE CELL 'sum', in the pinned program and in every row, IS THE sha256 OF THE DUMP (.gsa) THAT YtjpnjokaeojnjaaProg.lean LOADS. Nothing in Lean hashes anything: it is a label: what it is worth is what the hold of that sum in a sandbox is worth. -/
noncomputable def Try.pinned : Pinned := { name := "ytjpnjokaeojnjaa", sum := "243da5c209deb2d6b3998e56b168f957cbc78bcb8b51428ea9d3da8a6a8ff28a", checked := Try.checked }
namespace Rows
def none {H : Type} : Left H := { results := [], args := [] }

/-- 'laws.FnExactSameStatement': WHATEVER THE INPUT: true; the input reads as it did. -/
def fnExactSameStatementSpec : ChangeSpec := { name := "fnExactSameStatement", fn := fun _ => fun
  | [d1, d2] => { results := [.lit (.bool true)], args := [d1, d2] }
  | _ => none }
def fnExactSameStatementRow : OpenClaim := { program := "ytjpnjokaeojnjaa", sum := "243da5c209deb2d6b3998e56b168f957cbc78bcb8b51428ea9d3da8a6a8ff28a", func := "loop.example/g01169/laws.FnExactSameStatement", spec := "fnExactSameStatement", apart := false }
def FnExactSameStatementSaid : Prop := fnExactSameStatementRow.holds Try.pinned (OpenSpec.ofChange fnExactSameStatementSpec)

/-- ITS FALSE NEIGHBOUR: 'it returns false'. Refute it at one input. -/
def fnExactSameStatementWrong : ChangeSpec := { name := "fnExactSameStatement", fn := fun _ => fun
  | [d1, d2] => { results := [.lit (.bool false)], args := [d1, d2] }
  | _ => none }
def FnExactSameStatementWrongFalsely : Prop := fnExactSameStatementRow.holds Try.pinned (OpenSpec.ofChange fnExactSameStatementWrong)

/-- 'laws.FnExactSameCertificate': WHATEVER THE INPUT: true; the input reads as it did. -/
def fnExactSameCertificateSpec : ChangeSpec := { name := "fnExactSameCertificate", fn := fun _ => fun
  | [d1, d2] => { results := [.lit (.bool true)], args := [d1, d2] }
  | _ => none }
def fnExactSameCertificateRow : OpenClaim := { program := "ytjpnjokaeojnjaa", sum := "243da5c209deb2d6b3998e56b168f957cbc78bcb8b51428ea9d3da8a6a8ff28a", func := "loop.example/g01169/laws.FnExactSameCertificate", spec := "fnExactSameCertificate", unfollowed := true, recurses := true, apart := false }
def FnExactSameCertificateSaid : Prop := fnExactSameCertificateRow.holds Try.pinned (OpenSpec.ofChange fnExactSameCertificateSpec)

/-- ITS FALSE NEIGHBOUR: 'it returns false'. Refute it at one input. -/
def fnExactSameCertificateWrong : ChangeSpec := { name := "fnExactSameCertificate", fn := fun _ => fun
  | [d1, d2] => { results := [.lit (.bool false)], args := [d1, d2] }
  | _ => none }
def FnExactSameCertificateWrongFalsely : Prop := fnExactSameCertificateRow.holds Try.pinned (OpenSpec.ofChange fnExactSameCertificateWrong)

/-- 'laws.FnExactAddMatrices': WHATEVER THE INPUT: true; the input reads as it did. -/
def fnExactAddMatricesSpec : ChangeSpec := { name := "fnExactAddMatrices", fn := fun _ => fun
  | [d1, d2] => { results := [.lit (.bool true)], args := [d1, d2] }
  | _ => none }
def fnExactAddMatricesRow : OpenClaim := { program := "ytjpnjokaeojnjaa", sum := "243da5c209deb2d6b3998e56b168f957cbc78bcb8b51428ea9d3da8a6a8ff28a", func := "loop.example/g01169/laws.FnExactAddMatrices", spec := "fnExactAddMatrices", unfollowed := true, recurses := true, apart := false }
def FnExactAddMatricesSaid : Prop := fnExactAddMatricesRow.holds Try.pinned (OpenSpec.ofChange fnExactAddMatricesSpec)

/-- ITS FALSE NEIGHBOUR: 'it returns false'. Refute it at one input. -/
def fnExactAddMatricesWrong : ChangeSpec := { name := "fnExactAddMatrices", fn := fun _ => fun
  | [d1, d2] => { results := [.lit (.bool false)], args := [d1, d2] }
  | _ => none }
def FnExactAddMatricesWrongFalsely : Prop := fnExactAddMatricesRow.holds Try.pinned (OpenSpec.ofChange fnExactAddMatricesWrong)

/-- 'laws.FnExactSumOfFlag': WHATEVER THE INPUT: true; the input reads as it did. -/
def fnExactSumOfFlagSpec : ChangeSpec := { name := "fnExactSumOfFlag", fn := fun _ => fun
  | [d] => { results := [.lit (.bool true)], args := [d] }
  | _ => none }
def fnExactSumOfFlagRow : OpenClaim := { program := "ytjpnjokaeojnjaa", sum := "243da5c209deb2d6b3998e56b168f957cbc78bcb8b51428ea9d3da8a6a8ff28a", func := "loop.example/g01169/laws.FnExactSumOfFlag", spec := "fnExactSumOfFlag", unfollowed := true, recurses := true, apart := false }
def FnExactSumOfFlagSaid : Prop := fnExactSumOfFlagRow.holds Try.pinned (OpenSpec.ofChange fnExactSumOfFlagSpec)

/-- ITS FALSE NEIGHBOUR: 'it returns false'. Refute it at one input. -/
def fnExactSumOfFlagWrong : ChangeSpec := { name := "fnExactSumOfFlag", fn := fun _ => fun
  | [d] => { results := [.lit (.bool false)], args := [d] }
  | _ => none }
def FnExactSumOfFlagWrongFalsely : Prop := fnExactSumOfFlagRow.holds Try.pinned (OpenSpec.ofChange fnExactSumOfFlagWrong)

/-- 'laws.FnExactFromSquares': WHATEVER THE INPUT: true; the input reads as it did. -/
def fnExactFromSquaresSpec : ChangeSpec := { name := "fnExactFromSquares", fn := fun _ => fun
  | [d1, d2] => { results := [.lit (.bool true)], args := [d1, d2] }
  | _ => none }
def fnExactFromSquaresRow : OpenClaim := { program := "ytjpnjokaeojnjaa", sum := "243da5c209deb2d6b3998e56b168f957cbc78bcb8b51428ea9d3da8a6a8ff28a", func := "loop.example/g01169/laws.FnExactFromSquares", spec := "fnExactFromSquares", unfollowed := true, recurses := true, apart := false }
def FnExactFromSquaresSaid : Prop := fnExactFromSquaresRow.holds Try.pinned (OpenSpec.ofChange fnExactFromSquaresSpec)

/-- ITS FALSE NEIGHBOUR: 'it returns false'. Refute it at one input. -/
def fnExactFromSquaresWrong : ChangeSpec := { name := "fnExactFromSquares", fn := fun _ => fun
  | [d1, d2] => { results := [.lit (.bool false)], args := [d1, d2] }
  | _ => none }
def FnExactFromSquaresWrongFalsely : Prop := fnExactFromSquaresRow.holds Try.pinned (OpenSpec.ofChange fnExactFromSquaresWrong)

/-- 'laws.FnExactValidBlock': WHATEVER THE INPUT: true; the input reads as it did. -/
def fnExactValidBlockSpec : ChangeSpec := { name := "fnExactValidBlock", fn := fun _ => fun
  | [d] => { results := [.lit (.bool true)], args := [d] }
  | _ => none }
def fnExactValidBlockRow : OpenClaim := { program := "ytjpnjokaeojnjaa", sum := "243da5c209deb2d6b3998e56b168f957cbc78bcb8b51428ea9d3da8a6a8ff28a", func := "loop.example/g01169/laws.FnExactValidBlock", spec := "fnExactValidBlock", unfollowed := true, recurses := true, apart := false }
def FnExactValidBlockSaid : Prop := fnExactValidBlockRow.holds Try.pinned (OpenSpec.ofChange fnExactValidBlockSpec)

/-- ITS FALSE NEIGHBOUR: 'it returns false'. Refute it at one input. -/
def fnExactValidBlockWrong : ChangeSpec := { name := "fnExactValidBlock", fn := fun _ => fun
  | [d] => { results := [.lit (.bool false)], args := [d] }
  | _ => none }
def FnExactValidBlockWrongFalsely : Prop := fnExactValidBlockRow.holds Try.pinned (OpenSpec.ofChange fnExactValidBlockWrong)

/-- 'laws.FnExactIsPositive': WHATEVER THE INPUT: true; the input reads as it did. -/
def fnExactIsPositiveSpec : ChangeSpec := { name := "fnExactIsPositive", fn := fun _ => fun
  | [d] => { results := [.lit (.bool true)], args := [d] }
  | _ => none }
def fnExactIsPositiveRow : OpenClaim := { program := "ytjpnjokaeojnjaa", sum := "243da5c209deb2d6b3998e56b168f957cbc78bcb8b51428ea9d3da8a6a8ff28a", func := "loop.example/g01169/laws.FnExactIsPositive", spec := "fnExactIsPositive", unfollowed := true, recurses := true, apart := false }
def FnExactIsPositiveSaid : Prop := fnExactIsPositiveRow.holds Try.pinned (OpenSpec.ofChange fnExactIsPositiveSpec)

/-- ITS FALSE NEIGHBOUR: 'it returns false'. Refute it at one input. -/
def fnExactIsPositiveWrong : ChangeSpec := { name := "fnExactIsPositive", fn := fun _ => fun
  | [d] => { results := [.lit (.bool false)], args := [d] }
  | _ => none }
def FnExactIsPositiveWrongFalsely : Prop := fnExactIsPositiveRow.holds Try.pinned (OpenSpec.ofChange fnExactIsPositiveWrong)

/-- 'laws.FnExactValidSum': WHATEVER THE INPUT: true; the input reads as it did. -/
def fnExactValidSumSpec : ChangeSpec := { name := "fnExactValidSum", fn := fun _ => fun
  | [d] => { results := [.lit (.bool true)], args := [d] }
  | _ => none }
def fnExactValidSumRow : OpenClaim := { program := "ytjpnjokaeojnjaa", sum := "243da5c209deb2d6b3998e56b168f957cbc78bcb8b51428ea9d3da8a6a8ff28a", func := "loop.example/g01169/laws.FnExactValidSum", spec := "fnExactValidSum", unfollowed := true, recurses := true, apart := false }
def FnExactValidSumSaid : Prop := fnExactValidSumRow.holds Try.pinned (OpenSpec.ofChange fnExactValidSumSpec)

/-- ITS FALSE NEIGHBOUR: 'it returns false'. Refute it at one input. -/
def fnExactValidSumWrong : ChangeSpec := { name := "fnExactValidSum", fn := fun _ => fun
  | [d] => { results := [.lit (.bool false)], args := [d] }
  | _ => none }
def FnExactValidSumWrongFalsely : Prop := fnExactValidSumRow.holds Try.pinned (OpenSpec.ofChange fnExactValidSumWrong)

/-- 'laws.FnExactRankOf': WHATEVER THE INPUT: true; the input reads as it did. -/
def fnExactRankOfSpec : ChangeSpec := { name := "fnExactRankOf", fn := fun _ => fun
  | [d] => { results := [.lit (.bool true)], args := [d] }
  | _ => none }
def fnExactRankOfRow : OpenClaim := { program := "ytjpnjokaeojnjaa", sum := "243da5c209deb2d6b3998e56b168f957cbc78bcb8b51428ea9d3da8a6a8ff28a", func := "loop.example/g01169/laws.FnExactRankOf", spec := "fnExactRankOf", unfollowed := true, recurses := true, apart := false }
def FnExactRankOfSaid : Prop := fnExactRankOfRow.holds Try.pinned (OpenSpec.ofChange fnExactRankOfSpec)

/-- ITS FALSE NEIGHBOUR: 'it returns false'. Refute it at one input. -/
def fnExactRankOfWrong : ChangeSpec := { name := "fnExactRankOf", fn := fun _ => fun
  | [d] => { results := [.lit (.bool false)], args := [d] }
  | _ => none }
def FnExactRankOfWrongFalsely : Prop := fnExactRankOfRow.holds Try.pinned (OpenSpec.ofChange fnExactRankOfWrong)

/-- 'laws.FnExactSquaresOf': WHATEVER THE INPUT: true; the input reads as it did. -/
def fnExactSquaresOfSpec : ChangeSpec := { name := "fnExactSquaresOf", fn := fun _ => fun
  | [d] => { results := [.lit (.bool true)], args := [d] }
  | _ => none }
def fnExactSquaresOfRow : OpenClaim := { program := "ytjpnjokaeojnjaa", sum := "243da5c209deb2d6b3998e56b168f957cbc78bcb8b51428ea9d3da8a6a8ff28a", func := "loop.example/g01169/laws.FnExactSquaresOf", spec := "fnExactSquaresOf", unfollowed := true, recurses := true, apart := false }
def FnExactSquaresOfSaid : Prop := fnExactSquaresOfRow.holds Try.pinned (OpenSpec.ofChange fnExactSquaresOfSpec)

/-- ITS FALSE NEIGHBOUR: 'it returns false'. Refute it at one input. -/
def fnExactSquaresOfWrong : ChangeSpec := { name := "fnExactSquaresOf", fn := fun _ => fun
  | [d] => { results := [.lit (.bool false)], args := [d] }
  | _ => none }
def FnExactSquaresOfWrongFalsely : Prop := fnExactSquaresOfRow.holds Try.pinned (OpenSpec.ofChange fnExactSquaresOfWrong)

/-- 'laws.FnExactCoefficientOf': WHATEVER THE INPUT: true; the input reads as it did. -/
def fnExactCoefficientOfSpec : ChangeSpec := { name := "fnExactCoefficientOf", fn := fun _ => fun
  | [d1, d2] => { results := [.lit (.bool true)], args := [d1, d2] }
  | _ => none }
def fnExactCoefficientOfRow : OpenClaim := { program := "ytjpnjokaeojnjaa", sum := "243da5c209deb2d6b3998e56b168f957cbc78bcb8b51428ea9d3da8a6a8ff28a", func := "loop.example/g01169/laws.FnExactCoefficientOf", spec := "fnExactCoefficientOf", unfollowed := true, recurses := true, apart := false }
def FnExactCoefficientOfSaid : Prop := fnExactCoefficientOfRow.holds Try.pinned (OpenSpec.ofChange fnExactCoefficientOfSpec)

/-- ITS FALSE NEIGHBOUR: 'it returns false'. Refute it at one input. -/
def fnExactCoefficientOfWrong : ChangeSpec := { name := "fnExactCoefficientOf", fn := fun _ => fun
  | [d1, d2] => { results := [.lit (.bool false)], args := [d1, d2] }
  | _ => none }
def FnExactCoefficientOfWrongFalsely : Prop := fnExactCoefficientOfRow.holds Try.pinned (OpenSpec.ofChange fnExactCoefficientOfWrong)

/-- 'laws.FnExactAverageDensity': WHATEVER THE INPUT: true; the input reads as it did. -/
def fnExactAverageDensitySpec : ChangeSpec := { name := "fnExactAverageDensity", fn := fun _ => fun
  | [d1, d2] => { results := [.lit (.bool true)], args := [d1, d2] }
  | _ => none }
def fnExactAverageDensityRow : OpenClaim := { program := "ytjpnjokaeojnjaa", sum := "243da5c209deb2d6b3998e56b168f957cbc78bcb8b51428ea9d3da8a6a8ff28a", func := "loop.example/g01169/laws.FnExactAverageDensity", spec := "fnExactAverageDensity", unfollowed := true, recurses := true, apart := false }
def FnExactAverageDensitySaid : Prop := fnExactAverageDensityRow.holds Try.pinned (OpenSpec.ofChange fnExactAverageDensitySpec)

/-- ITS FALSE NEIGHBOUR: 'it returns false'. Refute it at one input. -/
def fnExactAverageDensityWrong : ChangeSpec := { name := "fnExactAverageDensity", fn := fun _ => fun
  | [d1, d2] => { results := [.lit (.bool false)], args := [d1, d2] }
  | _ => none }
def FnExactAverageDensityWrongFalsely : Prop := fnExactAverageDensityRow.holds Try.pinned (OpenSpec.ofChange fnExactAverageDensityWrong)

/- THE SECOND FORM. 'bulk': how many values and letters a reading holds, each counted each time it is reached (what is shared counts as often as it is met; a slice's spare places count too). A statement '..UptoSaid' is the law's where the arguments, and the package variables that the reading takes, are together of bulk at most 1048576: NARROWER than '..Said'. Prove '..Said' where nothing that the law and all that it calls make is longer than what came in: it says more and counts as full. Else prove '..UptoSaid'. A law counts once. -/
mutual
def uptoBulk {H : Type} : DataW H → Nat
  | .lit (.string bytes) => bytes.length + 1
  | .lit _ => 1
  | .nil => 1
  | .ptr d => uptoBulk d + 1
  | .slice elems spare => uptoBulkAll elems + uptoBulkAll spare + 1
  | .agg parts => uptoBulkAll parts + 1
  | .iface _ d => uptoBulk d + 1
  | .map entries => uptoBulkEntries entries + 1
  | .held _ => 1
def uptoBulkAll {H : Type} : List (DataW H) → Nat
  | [] => 0
  | d :: r => uptoBulk d + uptoBulkAll r
def uptoBulkEntries {H : Type} : List (Lit × DataW H) → Nat
  | [] => 0
  | x :: r => uptoBulkEntry x + uptoBulkEntries r
def uptoBulkEntry {H : Type} : Lit × DataW H → Nat
  | (.string bytes, d) => bytes.length + uptoBulk d + 1
  | (_, d) => uptoBulk d + 1
 end
def uptoSmall : (H : Type) → List (DataW H) → Bool := fun _ ds => decide (uptoBulkAll ds ≤ 1048576)
def OpenSpec.upto (s : _root_.Go.ChangeSpec) : _root_.Go.OpenSpec := { _root_.Go.OpenSpec.ofChange s with cond := some uptoSmall }

/-- 'laws.FnExactSameStatement', WHERE WHAT IT READS IS OF BULK AT MOST 1048576: true; the input reads as it did. -/
def fnExactSameStatementUptoRow : OpenClaim := { program := "ytjpnjokaeojnjaa", sum := "243da5c209deb2d6b3998e56b168f957cbc78bcb8b51428ea9d3da8a6a8ff28a", func := "loop.example/g01169/laws.FnExactSameStatement", spec := "fnExactSameStatement", apart := false, narrowed := true }
def FnExactSameStatementUptoSaid : Prop := fnExactSameStatementUptoRow.holds Try.pinned (OpenSpec.upto fnExactSameStatementSpec)

/-- 'laws.FnExactSameCertificate', WHERE WHAT IT READS IS OF BULK AT MOST 1048576: true; the input reads as it did. -/
def fnExactSameCertificateUptoRow : OpenClaim := { program := "ytjpnjokaeojnjaa", sum := "243da5c209deb2d6b3998e56b168f957cbc78bcb8b51428ea9d3da8a6a8ff28a", func := "loop.example/g01169/laws.FnExactSameCertificate", spec := "fnExactSameCertificate", unfollowed := true, recurses := true, apart := false, narrowed := true }
def FnExactSameCertificateUptoSaid : Prop := fnExactSameCertificateUptoRow.holds Try.pinned (OpenSpec.upto fnExactSameCertificateSpec)

/-- 'laws.FnExactAddMatrices', WHERE WHAT IT READS IS OF BULK AT MOST 1048576: true; the input reads as it did. -/
def fnExactAddMatricesUptoRow : OpenClaim := { program := "ytjpnjokaeojnjaa", sum := "243da5c209deb2d6b3998e56b168f957cbc78bcb8b51428ea9d3da8a6a8ff28a", func := "loop.example/g01169/laws.FnExactAddMatrices", spec := "fnExactAddMatrices", unfollowed := true, recurses := true, apart := false, narrowed := true }
def FnExactAddMatricesUptoSaid : Prop := fnExactAddMatricesUptoRow.holds Try.pinned (OpenSpec.upto fnExactAddMatricesSpec)

/-- 'laws.FnExactSumOfFlag', WHERE WHAT IT READS IS OF BULK AT MOST 1048576: true; the input reads as it did. -/
def fnExactSumOfFlagUptoRow : OpenClaim := { program := "ytjpnjokaeojnjaa", sum := "243da5c209deb2d6b3998e56b168f957cbc78bcb8b51428ea9d3da8a6a8ff28a", func := "loop.example/g01169/laws.FnExactSumOfFlag", spec := "fnExactSumOfFlag", unfollowed := true, recurses := true, apart := false, narrowed := true }
def FnExactSumOfFlagUptoSaid : Prop := fnExactSumOfFlagUptoRow.holds Try.pinned (OpenSpec.upto fnExactSumOfFlagSpec)

/-- 'laws.FnExactFromSquares', WHERE WHAT IT READS IS OF BULK AT MOST 1048576: true; the input reads as it did. -/
def fnExactFromSquaresUptoRow : OpenClaim := { program := "ytjpnjokaeojnjaa", sum := "243da5c209deb2d6b3998e56b168f957cbc78bcb8b51428ea9d3da8a6a8ff28a", func := "loop.example/g01169/laws.FnExactFromSquares", spec := "fnExactFromSquares", unfollowed := true, recurses := true, apart := false, narrowed := true }
def FnExactFromSquaresUptoSaid : Prop := fnExactFromSquaresUptoRow.holds Try.pinned (OpenSpec.upto fnExactFromSquaresSpec)

/-- 'laws.FnExactValidBlock', WHERE WHAT IT READS IS OF BULK AT MOST 1048576: true; the input reads as it did. -/
def fnExactValidBlockUptoRow : OpenClaim := { program := "ytjpnjokaeojnjaa", sum := "243da5c209deb2d6b3998e56b168f957cbc78bcb8b51428ea9d3da8a6a8ff28a", func := "loop.example/g01169/laws.FnExactValidBlock", spec := "fnExactValidBlock", unfollowed := true, recurses := true, apart := false, narrowed := true }
def FnExactValidBlockUptoSaid : Prop := fnExactValidBlockUptoRow.holds Try.pinned (OpenSpec.upto fnExactValidBlockSpec)

/-- 'laws.FnExactIsPositive', WHERE WHAT IT READS IS OF BULK AT MOST 1048576: true; the input reads as it did. -/
def fnExactIsPositiveUptoRow : OpenClaim := { program := "ytjpnjokaeojnjaa", sum := "243da5c209deb2d6b3998e56b168f957cbc78bcb8b51428ea9d3da8a6a8ff28a", func := "loop.example/g01169/laws.FnExactIsPositive", spec := "fnExactIsPositive", unfollowed := true, recurses := true, apart := false, narrowed := true }
def FnExactIsPositiveUptoSaid : Prop := fnExactIsPositiveUptoRow.holds Try.pinned (OpenSpec.upto fnExactIsPositiveSpec)

/-- 'laws.FnExactValidSum', WHERE WHAT IT READS IS OF BULK AT MOST 1048576: true; the input reads as it did. -/
def fnExactValidSumUptoRow : OpenClaim := { program := "ytjpnjokaeojnjaa", sum := "243da5c209deb2d6b3998e56b168f957cbc78bcb8b51428ea9d3da8a6a8ff28a", func := "loop.example/g01169/laws.FnExactValidSum", spec := "fnExactValidSum", unfollowed := true, recurses := true, apart := false, narrowed := true }
def FnExactValidSumUptoSaid : Prop := fnExactValidSumUptoRow.holds Try.pinned (OpenSpec.upto fnExactValidSumSpec)

/-- 'laws.FnExactRankOf', WHERE WHAT IT READS IS OF BULK AT MOST 1048576: true; the input reads as it did. -/
def fnExactRankOfUptoRow : OpenClaim := { program := "ytjpnjokaeojnjaa", sum := "243da5c209deb2d6b3998e56b168f957cbc78bcb8b51428ea9d3da8a6a8ff28a", func := "loop.example/g01169/laws.FnExactRankOf", spec := "fnExactRankOf", unfollowed := true, recurses := true, apart := false, narrowed := true }
def FnExactRankOfUptoSaid : Prop := fnExactRankOfUptoRow.holds Try.pinned (OpenSpec.upto fnExactRankOfSpec)

/-- 'laws.FnExactSquaresOf', WHERE WHAT IT READS IS OF BULK AT MOST 1048576: true; the input reads as it did. -/
def fnExactSquaresOfUptoRow : OpenClaim := { program := "ytjpnjokaeojnjaa", sum := "243da5c209deb2d6b3998e56b168f957cbc78bcb8b51428ea9d3da8a6a8ff28a", func := "loop.example/g01169/laws.FnExactSquaresOf", spec := "fnExactSquaresOf", unfollowed := true, recurses := true, apart := false, narrowed := true }
def FnExactSquaresOfUptoSaid : Prop := fnExactSquaresOfUptoRow.holds Try.pinned (OpenSpec.upto fnExactSquaresOfSpec)

/-- 'laws.FnExactCoefficientOf', WHERE WHAT IT READS IS OF BULK AT MOST 1048576: true; the input reads as it did. -/
def fnExactCoefficientOfUptoRow : OpenClaim := { program := "ytjpnjokaeojnjaa", sum := "243da5c209deb2d6b3998e56b168f957cbc78bcb8b51428ea9d3da8a6a8ff28a", func := "loop.example/g01169/laws.FnExactCoefficientOf", spec := "fnExactCoefficientOf", unfollowed := true, recurses := true, apart := false, narrowed := true }
def FnExactCoefficientOfUptoSaid : Prop := fnExactCoefficientOfUptoRow.holds Try.pinned (OpenSpec.upto fnExactCoefficientOfSpec)

/-- 'laws.FnExactAverageDensity', WHERE WHAT IT READS IS OF BULK AT MOST 1048576: true; the input reads as it did. -/
def fnExactAverageDensityUptoRow : OpenClaim := { program := "ytjpnjokaeojnjaa", sum := "243da5c209deb2d6b3998e56b168f957cbc78bcb8b51428ea9d3da8a6a8ff28a", func := "loop.example/g01169/laws.FnExactAverageDensity", spec := "fnExactAverageDensity", unfollowed := true, recurses := true, apart := false, narrowed := true }
def FnExactAverageDensityUptoSaid : Prop := fnExactAverageDensityUptoRow.holds Try.pinned (OpenSpec.upto fnExactAverageDensitySpec)

end Rows
end Go.Proofs.Ytjpnjokaeojnjaa

/-
  No cell of these rows narrows 'for every input' (looked for: loops, veiled, ifaces, maps, wideKeys, modest, calm, conditions, laid).
  DERIVED. THE GIVEN ROWS OF THIS SEAT. 4 by the template 'for every input the law returns true; each argument reads behind the call as it read before'; 0 by the template 'total and deterministic' (their statements: YtkfjlimlodbcgaaTotals.lean).
  GIVEN WITH THE SEED: the statements are not yours to turn. If you find one false, say at which input.
  Laid BY PROGRAM, IN A SANDBOX (cutbox-rows.mjs): the forced cells as the released guide's own fill.sh prints them over the translation d980c72e02e4e36f… (all of the seat's roots in one cut). By AI agents, Wed Nov 11 2026. No macro, syntax, notation, axiom, sorry.
-/
import Derived.Test.YtkfjlimlodbcgaaChecked
import GoSem.Claim
import GoSem.ClaimJoined
import GoSem.ClaimMapViews
import Derived.JoinedTies
import Derived.KernelRfl
namespace Go.Proofs.Ytkfjlimlodbcgaa
/- THE CELL 'sum', in the pinned program and in every row, IS THE sha256 OF THE DUMP (.gsa) THAT YtkfjlimlodbcgaaProg.lean LOADS. Nothing in Lean hashes anything: it is a label: what it is worth is what the hold of that sum in a sandbox is worth. -/
noncomputable def Try.pinned : Pinned := { name := "ytkfjlimlodbcgaa", sum := "d980c72e02e4e36f50b9880672acd2e52505152e8d4548e03d8662556d772b33", checked := Try.checked }
namespace Rows
def none {H : Type} : Left H := { results := [], args := [] }

/-- 'laws.FnExactAverageDensity': WHATEVER THE INPUT: true; the input reads as it did. -/
def fnExactAverageDensitySpec : ChangeSpec := { name := "fnExactAverageDensity", fn := fun _ => fun
  | [d1, d2] => { results := [.lit (.bool true)], args := [d1, d2] }
  | _ => none }
def fnExactAverageDensityRow : OpenClaim := { program := "ytkfjlimlodbcgaa", sum := "d980c72e02e4e36f50b9880672acd2e52505152e8d4548e03d8662556d772b33", func := "loop.example/g01169/laws.FnExactAverageDensity", spec := "fnExactAverageDensity", unfollowed := true, recurses := true, apart := false }
def FnExactAverageDensitySaid : Prop := fnExactAverageDensityRow.holds Try.pinned (OpenSpec.ofChange fnExactAverageDensitySpec)

/-- ITS FALSE NEIGHBOUR: 'it returns false'. Refute it at one input. -/
def fnExactAverageDensityWrong : ChangeSpec := { name := "fnExactAverageDensity", fn := fun _ => fun
  | [d1, d2] => { results := [.lit (.bool false)], args := [d1, d2] }
  | _ => none }
def FnExactAverageDensityWrongFalsely : Prop := fnExactAverageDensityRow.holds Try.pinned (OpenSpec.ofChange fnExactAverageDensityWrong)

/-- 'laws.FnExactValueIn': WHATEVER THE INPUT: true; the input reads as it did. -/
def fnExactValueInSpec : ChangeSpec := { name := "fnExactValueIn", fn := fun _ => fun
  | [d1, d2] => { results := [.lit (.bool true)], args := [d1, d2] }
  | _ => none }
def fnExactValueInRow : OpenClaim := { program := "ytkfjlimlodbcgaa", sum := "d980c72e02e4e36f50b9880672acd2e52505152e8d4548e03d8662556d772b33", func := "loop.example/g01169/laws.FnExactValueIn", spec := "fnExactValueIn", unfollowed := true, recurses := true, apart := false }
def FnExactValueInSaid : Prop := fnExactValueInRow.holds Try.pinned (OpenSpec.ofChange fnExactValueInSpec)

/-- ITS FALSE NEIGHBOUR: 'it returns false'. Refute it at one input. -/
def fnExactValueInWrong : ChangeSpec := { name := "fnExactValueIn", fn := fun _ => fun
  | [d1, d2] => { results := [.lit (.bool false)], args := [d1, d2] }
  | _ => none }
def FnExactValueInWrongFalsely : Prop := fnExactValueInRow.holds Try.pinned (OpenSpec.ofChange fnExactValueInWrong)

/-- 'laws.FnExactPairTable': WHATEVER THE INPUT: true; the input reads as it did. -/
def fnExactPairTableSpec : ChangeSpec := { name := "fnExactPairTable", fn := fun _ => fun
  | [d1, d2] => { results := [.lit (.bool true)], args := [d1, d2] }
  | _ => none }
def fnExactPairTableRow : OpenClaim := { program := "ytkfjlimlodbcgaa", sum := "d980c72e02e4e36f50b9880672acd2e52505152e8d4548e03d8662556d772b33", func := "loop.example/g01169/laws.FnExactPairTable", spec := "fnExactPairTable", unfollowed := true, recurses := true, apart := false }
def FnExactPairTableSaid : Prop := fnExactPairTableRow.holds Try.pinned (OpenSpec.ofChange fnExactPairTableSpec)

/-- ITS FALSE NEIGHBOUR: 'it returns false'. Refute it at one input. -/
def fnExactPairTableWrong : ChangeSpec := { name := "fnExactPairTable", fn := fun _ => fun
  | [d1, d2] => { results := [.lit (.bool false)], args := [d1, d2] }
  | _ => none }
def FnExactPairTableWrongFalsely : Prop := fnExactPairTableRow.holds Try.pinned (OpenSpec.ofChange fnExactPairTableWrong)

/-- 'laws.FnExactScaleSum': WHATEVER THE INPUT: true; the input reads as it did. -/
def fnExactScaleSumSpec : ChangeSpec := { name := "fnExactScaleSum", fn := fun _ => fun
  | [d1, d2] => { results := [.lit (.bool true)], args := [d1, d2] }
  | _ => none }
def fnExactScaleSumRow : OpenClaim := { program := "ytkfjlimlodbcgaa", sum := "d980c72e02e4e36f50b9880672acd2e52505152e8d4548e03d8662556d772b33", func := "loop.example/g01169/laws.FnExactScaleSum", spec := "fnExactScaleSum", unfollowed := true, recurses := true, apart := false }
def FnExactScaleSumSaid : Prop := fnExactScaleSumRow.holds Try.pinned (OpenSpec.ofChange fnExactScaleSumSpec)

/-- ITS FALSE NEIGHBOUR: 'it returns false'. Refute it at one input. -/
def fnExactScaleSumWrong : ChangeSpec := { name := "fnExactScaleSum", fn := fun _ => fun
  | [d1, d2] => { results := [.lit (.bool false)], args := [d1, d2] }
  | _ => none }
def FnExactScaleSumWrongFalsely : Prop := fnExactScaleSumRow.holds Try.pinned (OpenSpec.ofChange fnExactScaleSumWrong)

/- THE SECOND FORM. 'bulk': how many values and letters a reading holds, each counted each time it is reached (what is shared counts as often as it is met; a slice's spare places count too). A statement '..UptoSaid' is the law's where the arguments, and the package variables that the reading takes, are together of bulk at most 1048576: NARROWER than '..Said'. Prove '..Said' where nothing that the law and all that it calls make is longer than what came in: it says more and counts as full. Else prove '..UptoSaid'. A law counts once. -/
mutual
def uptoBulk {H : Type} : DataW H → Nat
  | .lit (.string bytes) => bytes.length + 1
  | .lit _ => 1
  | .nil => 1
  | .ptr d => uptoBulk d + 1
  | .slice elems spare => uptoBulkAll elems + uptoBulkAll spare + 1
  | .agg parts => uptoBulkAll parts + 1
  | .iface _ d => uptoBulk d + 1
  | .map entries => uptoBulkEntries entries + 1
  | .held _ => 1
def uptoBulkAll {H : Type} : List (DataW H) → Nat
  | [] => 0
  | d :: r => uptoBulk d + uptoBulkAll r
def uptoBulkEntries {H : Type} : List (Lit × DataW H) → Nat
  | [] => 0
  | x :: r => uptoBulkEntry x + uptoBulkEntries r
def uptoBulkEntry {H : Type} : Lit × DataW H → Nat
  | (.string bytes, d) => bytes.length + uptoBulk d + 1
  | (_, d) => uptoBulk d + 1
 end
def uptoSmall : (H : Type) → List (DataW H) → Bool := fun _ ds => decide (uptoBulkAll ds ≤ 1048576)
def OpenSpec.upto (s : _root_.Go.ChangeSpec) : _root_.Go.OpenSpec := { _root_.Go.OpenSpec.ofChange s with cond := some uptoSmall }

/-- 'laws.FnExactAverageDensity', WHERE WHAT IT READS IS OF BULK AT MOST 1048576: true; the input reads as it did. -/
def fnExactAverageDensityUptoRow : OpenClaim := { program := "ytkfjlimlodbcgaa", sum := "d980c72e02e4e36f50b9880672acd2e52505152e8d4548e03d8662556d772b33", func := "loop.example/g01169/laws.FnExactAverageDensity", spec := "fnExactAverageDensity", unfollowed := true, recurses := true, apart := false, narrowed := true }
def FnExactAverageDensityUptoSaid : Prop := fnExactAverageDensityUptoRow.holds Try.pinned (OpenSpec.upto fnExactAverageDensitySpec)

/-- 'laws.FnExactValueIn', WHERE WHAT IT READS IS OF BULK AT MOST 1048576: true; the input reads as it did. -/
def fnExactValueInUptoRow : OpenClaim := { program := "ytkfjlimlodbcgaa", sum := "d980c72e02e4e36f50b9880672acd2e52505152e8d4548e03d8662556d772b33", func := "loop.example/g01169/laws.FnExactValueIn", spec := "fnExactValueIn", unfollowed := true, recurses := true, apart := false, narrowed := true }
def FnExactValueInUptoSaid : Prop := fnExactValueInUptoRow.holds Try.pinned (OpenSpec.upto fnExactValueInSpec)

/-- 'laws.FnExactPairTable', WHERE WHAT IT READS IS OF BULK AT MOST 1048576: true; the input reads as it did. -/
def fnExactPairTableUptoRow : OpenClaim := { program := "ytkfjlimlodbcgaa", sum := "d980c72e02e4e36f50b9880672acd2e52505152e8d4548e03d8662556d772b33", func := "loop.example/g01169/laws.FnExactPairTable", spec := "fnExactPairTable", unfollowed := true, recurses := true, apart := false, narrowed := true }
def FnExactPairTableUptoSaid : Prop := fnExactPairTableUptoRow.holds Try.pinned (OpenSpec.upto fnExactPairTableSpec)

/-- 'laws.FnExactScaleSum', WHERE WHAT IT READS IS OF BULK AT MOST 1048576: true; the input reads as it did. -/
def fnExactScaleSumUptoRow : OpenClaim := { program := "ytkfjlimlodbcgaa", sum := "d980c72e02e4e36f50b9880672acd2e52505152e8d4548e03d8662556d772b33", func := "loop.example/g01169/laws.FnExactScaleSum", spec := "fnExactScaleSum", unfollowed := true, recurses := true, apart := false, narrowed := true }
def FnExactScaleSumUptoSaid : Prop := fnExactScaleSumUptoRow.holds Try.pinned (OpenSpec.upto fnExactScaleSumSpec)

end Rows
end Go.Proofs.Ytkfjlimlodbcgaa

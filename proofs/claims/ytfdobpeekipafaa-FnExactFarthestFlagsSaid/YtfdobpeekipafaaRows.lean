/-
  No cell of these rows narrows 'for every input' (looked for: loops, veiled, ifaces, maps, wideKeys, modest, calm, conditions, laid).
  DERIVED. THE GIVEN ROWS OF THIS SEAT. 6 by the template 'for every input the law returns true; each argument reads behind the call as it read before'; 0 by the template 'total and deterministic' (their statements: YtfdobpeekipafaaTotals.lean).
  GIVEN WITH THE SEED: the statements are not yours to turn. If you find one false, say at which input.
  Laid BY PROGRAM, IN A SANDBOX (cutbox-rows.mjs): the forced cells as the released guide's own fill.sh prints them over the translation fc9723769ff936ea… (all of the seat's roots in one cut). By AI agents, Wed Nov 11 2026. No macro, syntax, notation, axiom, sorry.
-/
import Derived.Test.YtfdobpeekipafaaChecked
import GoSem.Claim
import GoSem.ClaimJoined
import GoSem.ClaimMapViews
import Derived.JoinedTies
import Derived.KernelRfl
namespace Go.Proofs.Ytfdobpeekipafaa
/- THE CELL 'sum', in the pinned program and in every row, IS THE sha256 OF THE DUMP (.gsa) THAT YtfdobpeekipafaaProg.lean LOADS. Nothing in Lean hashes anything: it is a label: what it is worth is what the hold of that sum in a sandbox is worth. -/
noncomputable def Try.pinned : Pinned := { name := "ytfdobpeekipafaa", sum := "fc9723769ff936ea3e107625602d5b724ef98719ce5e606ed6a8f8875232a9c6", checked := Try.checked }
namespace Rows
def none {H : Type} : Left H := { results := [], args := [] }

/-- 'laws.FnExactAllOnes': WHATEVER THE INPUT: true; the input reads as it did. -/
def fnExactAllOnesSpec : ChangeSpec := { name := "fnExactAllOnes", fn := fun _ => fun
  | [d1, d2] => { results := [.lit (.bool true)], args := [d1, d2] }
  | _ => none }
def fnExactAllOnesRow : OpenClaim := { program := "ytfdobpeekipafaa", sum := "fc9723769ff936ea3e107625602d5b724ef98719ce5e606ed6a8f8875232a9c6", func := "loop.example/g01169/laws.FnExactAllOnes", spec := "fnExactAllOnes", unfollowed := true, recurses := true, apart := false }
def FnExactAllOnesSaid : Prop := fnExactAllOnesRow.holds Try.pinned (OpenSpec.ofChange fnExactAllOnesSpec)

/-- ITS FALSE NEIGHBOUR: 'it returns false'. Refute it at one input. -/
def fnExactAllOnesWrong : ChangeSpec := { name := "fnExactAllOnes", fn := fun _ => fun
  | [d1, d2] => { results := [.lit (.bool false)], args := [d1, d2] }
  | _ => none }
def FnExactAllOnesWrongFalsely : Prop := fnExactAllOnesRow.holds Try.pinned (OpenSpec.ofChange fnExactAllOnesWrong)

/-- 'laws.FnExactFlagDensities': WHATEVER THE INPUT: true; the input reads as it did. -/
def fnExactFlagDensitiesSpec : ChangeSpec := { name := "fnExactFlagDensities", fn := fun _ => fun
  | [d1, d2] => { results := [.lit (.bool true)], args := [d1, d2] }
  | _ => none }
def fnExactFlagDensitiesRow : OpenClaim := { program := "ytfdobpeekipafaa", sum := "fc9723769ff936ea3e107625602d5b724ef98719ce5e606ed6a8f8875232a9c6", func := "loop.example/g01169/laws.FnExactFlagDensities", spec := "fnExactFlagDensities", unfollowed := true, recurses := true, apart := false }
def FnExactFlagDensitiesSaid : Prop := fnExactFlagDensitiesRow.holds Try.pinned (OpenSpec.ofChange fnExactFlagDensitiesSpec)

/-- ITS FALSE NEIGHBOUR: 'it returns false'. Refute it at one input. -/
def fnExactFlagDensitiesWrong : ChangeSpec := { name := "fnExactFlagDensities", fn := fun _ => fun
  | [d1, d2] => { results := [.lit (.bool false)], args := [d1, d2] }
  | _ => none }
def FnExactFlagDensitiesWrongFalsely : Prop := fnExactFlagDensitiesRow.holds Try.pinned (OpenSpec.ofChange fnExactFlagDensitiesWrong)

/-- 'laws.FnExactThroughSize': WHATEVER THE INPUT: true; the input reads as it did. -/
def fnExactThroughSizeSpec : ChangeSpec := { name := "fnExactThroughSize", fn := fun _ => fun
  | [d1, d2, d3] => { results := [.lit (.bool true)], args := [d1, d2, d3] }
  | _ => none }
def fnExactThroughSizeRow : OpenClaim := { program := "ytfdobpeekipafaa", sum := "fc9723769ff936ea3e107625602d5b724ef98719ce5e606ed6a8f8875232a9c6", func := "loop.example/g01169/laws.FnExactThroughSize", spec := "fnExactThroughSize", unfollowed := true, recurses := true, apart := false }
def FnExactThroughSizeSaid : Prop := fnExactThroughSizeRow.holds Try.pinned (OpenSpec.ofChange fnExactThroughSizeSpec)

/-- ITS FALSE NEIGHBOUR: 'it returns false'. Refute it at one input. -/
def fnExactThroughSizeWrong : ChangeSpec := { name := "fnExactThroughSize", fn := fun _ => fun
  | [d1, d2, d3] => { results := [.lit (.bool false)], args := [d1, d2, d3] }
  | _ => none }
def FnExactThroughSizeWrongFalsely : Prop := fnExactThroughSizeRow.holds Try.pinned (OpenSpec.ofChange fnExactThroughSizeWrong)

/-- 'laws.FnExactAverageDensity': WHATEVER THE INPUT: true; the input reads as it did. -/
def fnExactAverageDensitySpec : ChangeSpec := { name := "fnExactAverageDensity", fn := fun _ => fun
  | [d1, d2] => { results := [.lit (.bool true)], args := [d1, d2] }
  | _ => none }
def fnExactAverageDensityRow : OpenClaim := { program := "ytfdobpeekipafaa", sum := "fc9723769ff936ea3e107625602d5b724ef98719ce5e606ed6a8f8875232a9c6", func := "loop.example/g01169/laws.FnExactAverageDensity", spec := "fnExactAverageDensity", unfollowed := true, recurses := true, apart := false }
def FnExactAverageDensitySaid : Prop := fnExactAverageDensityRow.holds Try.pinned (OpenSpec.ofChange fnExactAverageDensitySpec)

/-- ITS FALSE NEIGHBOUR: 'it returns false'. Refute it at one input. -/
def fnExactAverageDensityWrong : ChangeSpec := { name := "fnExactAverageDensity", fn := fun _ => fun
  | [d1, d2] => { results := [.lit (.bool false)], args := [d1, d2] }
  | _ => none }
def FnExactAverageDensityWrongFalsely : Prop := fnExactAverageDensityRow.holds Try.pinned (OpenSpec.ofChange fnExactAverageDensityWrong)

/-- 'laws.FnExactFarthestFlags': WHATEVER THE INPUT: true; the input reads as it did. -/
def fnExactFarthestFlagsSpec : ChangeSpec := { name := "fnExactFarthestFlags", fn := fun _ => fun
  | [d1, d2] => { results := [.lit (.bool true)], args := [d1, d2] }
  | _ => none }
def fnExactFarthestFlagsRow : OpenClaim := { program := "ytfdobpeekipafaa", sum := "fc9723769ff936ea3e107625602d5b724ef98719ce5e606ed6a8f8875232a9c6", func := "loop.example/g01169/laws.FnExactFarthestFlags", spec := "fnExactFarthestFlags", unfollowed := true, recurses := true, apart := false }
def FnExactFarthestFlagsSaid : Prop := fnExactFarthestFlagsRow.holds Try.pinned (OpenSpec.ofChange fnExactFarthestFlagsSpec)

/-- ITS FALSE NEIGHBOUR: 'it returns false'. Refute it at one input. -/
def fnExactFarthestFlagsWrong : ChangeSpec := { name := "fnExactFarthestFlags", fn := fun _ => fun
  | [d1, d2] => { results := [.lit (.bool false)], args := [d1, d2] }
  | _ => none }
def FnExactFarthestFlagsWrongFalsely : Prop := fnExactFarthestFlagsRow.holds Try.pinned (OpenSpec.ofChange fnExactFarthestFlagsWrong)

/-- 'laws.FnExactWithoutForbidden': WHATEVER THE INPUT: true; the input reads as it did. -/
def fnExactWithoutForbiddenSpec : ChangeSpec := { name := "fnExactWithoutForbidden", fn := fun _ => fun
  | [d1, d2] => { results := [.lit (.bool true)], args := [d1, d2] }
  | _ => none }
def fnExactWithoutForbiddenRow : OpenClaim := { program := "ytfdobpeekipafaa", sum := "fc9723769ff936ea3e107625602d5b724ef98719ce5e606ed6a8f8875232a9c6", func := "loop.example/g01169/laws.FnExactWithoutForbidden", spec := "fnExactWithoutForbidden", unfollowed := true, recurses := true, apart := false }
def FnExactWithoutForbiddenSaid : Prop := fnExactWithoutForbiddenRow.holds Try.pinned (OpenSpec.ofChange fnExactWithoutForbiddenSpec)

/-- ITS FALSE NEIGHBOUR: 'it returns false'. Refute it at one input. -/
def fnExactWithoutForbiddenWrong : ChangeSpec := { name := "fnExactWithoutForbidden", fn := fun _ => fun
  | [d1, d2] => { results := [.lit (.bool false)], args := [d1, d2] }
  | _ => none }
def FnExactWithoutForbiddenWrongFalsely : Prop := fnExactWithoutForbiddenRow.holds Try.pinned (OpenSpec.ofChange fnExactWithoutForbiddenWrong)

/- THE SECOND FORM. 'bulk': how many values and letters a reading holds, each counted each time it is reached (what is shared counts as often as it is met; a slice's spare places count too). A statement '..UptoSaid' is the law's where the arguments, and the package variables that the reading takes, are together of bulk at most 1048576: NARROWER than '..Said'. Prove '..Said' where nothing that the law and all that it calls make is longer than what came in: it says more and counts as full. Else prove '..UptoSaid'. A law counts once. -/
mutual
def uptoBulk {H : Type} : DataW H → Nat
  | .lit (.string bytes) => bytes.length + 1
  | .lit _ => 1
  | .nil => 1
  | .ptr d => uptoBulk d + 1
  | .slice elems spare => uptoBulkAll elems + uptoBulkAll spare + 1
  | .agg parts => uptoBulkAll parts + 1
  | .iface _ d => uptoBulk d + 1
  | .map entries => uptoBulkEntries entries + 1
  | .held _ => 1
def uptoBulkAll {H : Type} : List (DataW H) → Nat
  | [] => 0
  | d :: r => uptoBulk d + uptoBulkAll r
def uptoBulkEntries {H : Type} : List (Lit × DataW H) → Nat
  | [] => 0
  | x :: r => uptoBulkEntry x + uptoBulkEntries r
def uptoBulkEntry {H : Type} : Lit × DataW H → Nat
  | (.string bytes, d) => bytes.length + uptoBulk d + 1
  | (_, d) => uptoBulk d + 1
 end
def uptoSmall : (H : Type) → List (DataW H) → Bool := fun _ ds => decide (uptoBulkAll ds ≤ 1048576)
def OpenSpec.upto (s : _root_.Go.ChangeSpec) : _root_.Go.OpenSpec := { _root_.Go.OpenSpec.ofChange s with cond := some uptoSmall }

/-- 'laws.FnExactAllOnes', WHERE WHAT IT READS IS OF BULK AT MOST 1048576: true; the input reads as it did. -/
def fnExactAllOnesUptoRow : OpenClaim := { program := "ytfdobpeekipafaa", sum := "fc9723769ff936ea3e107625602d5b724ef98719ce5e606ed6a8f8875232a9c6", func := "loop.example/g01169/laws.FnExactAllOnes", spec := "fnExactAllOnes", unfollowed := true, recurses := true, apart := false, narrowed := true }
def FnExactAllOnesUptoSaid : Prop := fnExactAllOnesUptoRow.holds Try.pinned (OpenSpec.upto fnExactAllOnesSpec)

/-- 'laws.FnExactFlagDensities', WHERE WHAT IT READS IS OF BULK AT MOST 1048576: true; the input reads as it did. -/
def fnExactFlagDensitiesUptoRow : OpenClaim := { program := "ytfdobpeekipafaa", sum := "fc9723769ff936ea3e107625602d5b724ef98719ce5e606ed6a8f8875232a9c6", func := "loop.example/g01169/laws.FnExactFlagDensities", spec := "fnExactFlagDensities", unfollowed := true, recurses := true, apart := false, narrowed := true }
def FnExactFlagDensitiesUptoSaid : Prop := fnExactFlagDensitiesUptoRow.holds Try.pinned (OpenSpec.upto fnExactFlagDensitiesSpec)

/-- 'laws.FnExactThroughSize', WHERE WHAT IT READS IS OF BULK AT MOST 1048576: true; the input reads as it did. -/
def fnExactThroughSizeUptoRow : OpenClaim := { program := "ytfdobpeekipafaa", sum := "fc9723769ff936ea3e107625602d5b724ef98719ce5e606ed6a8f8875232a9c6", func := "loop.example/g01169/laws.FnExactThroughSize", spec := "fnExactThroughSize", unfollowed := true, recurses := true, apart := false, narrowed := true }
def FnExactThroughSizeUptoSaid : Prop := fnExactThroughSizeUptoRow.holds Try.pinned (OpenSpec.upto fnExactThroughSizeSpec)

/-- 'laws.FnExactAverageDensity', WHERE WHAT IT READS IS OF BULK AT MOST 1048576: true; the input reads as it did. -/
def fnExactAverageDensityUptoRow : OpenClaim := { program := "ytfdobpeekipafaa", sum := "fc9723769ff936ea3e107625602d5b724ef98719ce5e606ed6a8f8875232a9c6", func := "loop.example/g01169/laws.FnExactAverageDensity", spec := "fnExactAverageDensity", unfollowed := true, recurses := true, apart := false, narrowed := true }
def FnExactAverageDensityUptoSaid : Prop := fnExactAverageDensityUptoRow.holds Try.pinned (OpenSpec.upto fnExactAverageDensitySpec)

/-- 'laws.FnExactFarthestFlags', WHERE WHAT IT READS IS OF BULK AT MOST 1048576: true; the input reads as it did. -/
def fnExactFarthestFlagsUptoRow : OpenClaim := { program := "ytfdobpeekipafaa", sum := "fc9723769ff936ea3e107625602d5b724ef98719ce5e606ed6a8f8875232a9c6", func := "loop.example/g01169/laws.FnExactFarthestFlags", spec := "fnExactFarthestFlags", unfollowed := true, recurses := true, apart := false, narrowed := true }
def FnExactFarthestFlagsUptoSaid : Prop := fnExactFarthestFlagsUptoRow.holds Try.pinned (OpenSpec.upto fnExactFarthestFlagsSpec)

/-- 'laws.FnExactWithoutForbidden', WHERE WHAT IT READS IS OF BULK AT MOST 1048576: true; the input reads as it did. -/
def fnExactWithoutForbiddenUptoRow : OpenClaim := { program := "ytfdobpeekipafaa", sum := "fc9723769ff936ea3e107625602d5b724ef98719ce5e606ed6a8f8875232a9c6", func := "loop.example/g01169/laws.FnExactWithoutForbidden", spec := "fnExactWithoutForbidden", unfollowed := true, recurses := true, apart := false, narrowed := true }
def FnExactWithoutForbiddenUptoSaid : Prop := fnExactWithoutForbiddenUptoRow.holds Try.pinned (OpenSpec.upto fnExactWithoutForbiddenSpec)

end Rows
end Go.Proofs.Ytfdobpeekipafaa

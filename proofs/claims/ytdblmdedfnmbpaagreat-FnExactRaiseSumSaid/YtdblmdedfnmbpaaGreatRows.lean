/-
  No cell of these rows narrows 'for every input' (looked for: loops, veiled, ifaces, maps, wideKeys, modest, calm, conditions, laid).
  DERIVED. THE GIVEN ROWS OF THIS SEAT. 4 by the template 'for every input the law returns true; each argument reads behind the call as it read before'; 0 by the template 'total and deterministic' (their statements: YtdblmdedfnmbpaaGreatTotals.lean).
  GIVEN WITH THE SEED: the statements are not yours to turn. If you find one false, say at which input.
  Laid BY PROGRAM, IN A SANDBOX (cutbox-rows.mjs): the forced cells as the released guide's own fill.sh prints them over the translation 2ec4fad1f08436d8… (all of the seat's roots in one cut). By AI agents, Wed Nov 11 2026. No macro, syntax, notation, axiom, sorry.
-/
import Derived.Test.YtdblmdedfnmbpaaGreatChecked
import GoSem.Claim
import GoSem.ClaimJoined
import GoSem.ClaimMapViews
import Derived.JoinedTies
import Derived.KernelRfl
namespace Go.Proofs.YtdblmdedfnmbpaaGreat
/- THE CELL 'sum', in the pinned program and in every row, IS THE sha256 OF THE DUMP (.gsa) THAT YtdblmdedfnmbpaaGreatProg.lean LOADS. Nothing in Lean hashes anything: it is a label: what it is worth is what the hold of that sum in a sandbox is worth. -/
noncomputable def Tryz.pinned : Pinned := { name := "ytdblmdedfnmbpaagreat", sum := "2ec4fad1f08436d8e032b7295a97b79ade5ee823f47fd83c165ddb9302965e40", checked := Tryz.checked }
namespace Rows
def none {H : Type} : Left H := { results := [], args := [] }

/-- 'laws.FnExactRaiseSum': WHATEVER THE INPUT: true; the input reads as it did. -/
def fnExactRaiseSumSpec : ChangeSpec := { name := "fnExactRaiseSum", fn := fun _ => fun
  | [d1, d2] => { results := [.lit (.bool true)], args := [d1, d2] }
  | _ => none }
def fnExactRaiseSumRow : OpenClaim := { program := "ytdblmdedfnmbpaagreat", sum := "2ec4fad1f08436d8e032b7295a97b79ade5ee823f47fd83c165ddb9302965e40", func := "loop.example/g01169/laws.FnExactRaiseSum", spec := "fnExactRaiseSum", unfollowed := true, recurses := true, apart := false }
def FnExactRaiseSumSaid : Prop := fnExactRaiseSumRow.holds Tryz.pinned (OpenSpec.ofChange fnExactRaiseSumSpec)

/-- ITS FALSE NEIGHBOUR: 'it returns false'. Refute it at one input. -/
def fnExactRaiseSumWrong : ChangeSpec := { name := "fnExactRaiseSum", fn := fun _ => fun
  | [d1, d2] => { results := [.lit (.bool false)], args := [d1, d2] }
  | _ => none }
def FnExactRaiseSumWrongFalsely : Prop := fnExactRaiseSumRow.holds Tryz.pinned (OpenSpec.ofChange fnExactRaiseSumWrong)

/-- 'laws.FnExactAreEqualSums': WHATEVER THE INPUT: true; the input reads as it did. -/
def fnExactAreEqualSumsSpec : ChangeSpec := { name := "fnExactAreEqualSums", fn := fun _ => fun
  | [d1, d2] => { results := [.lit (.bool true)], args := [d1, d2] }
  | _ => none }
def fnExactAreEqualSumsRow : OpenClaim := { program := "ytdblmdedfnmbpaagreat", sum := "2ec4fad1f08436d8e032b7295a97b79ade5ee823f47fd83c165ddb9302965e40", func := "loop.example/g01169/laws.FnExactAreEqualSums", spec := "fnExactAreEqualSums", unfollowed := true, recurses := true, apart := false }
def FnExactAreEqualSumsSaid : Prop := fnExactAreEqualSumsRow.holds Tryz.pinned (OpenSpec.ofChange fnExactAreEqualSumsSpec)

/-- ITS FALSE NEIGHBOUR: 'it returns false'. Refute it at one input. -/
def fnExactAreEqualSumsWrong : ChangeSpec := { name := "fnExactAreEqualSums", fn := fun _ => fun
  | [d1, d2] => { results := [.lit (.bool false)], args := [d1, d2] }
  | _ => none }
def FnExactAreEqualSumsWrongFalsely : Prop := fnExactAreEqualSumsRow.holds Tryz.pinned (OpenSpec.ofChange fnExactAreEqualSumsWrong)

/-- 'laws.FnExactMultiplySums': WHATEVER THE INPUT: true; the input reads as it did. -/
def fnExactMultiplySumsSpec : ChangeSpec := { name := "fnExactMultiplySums", fn := fun _ => fun
  | [d1, d2] => { results := [.lit (.bool true)], args := [d1, d2] }
  | _ => none }
def fnExactMultiplySumsRow : OpenClaim := { program := "ytdblmdedfnmbpaagreat", sum := "2ec4fad1f08436d8e032b7295a97b79ade5ee823f47fd83c165ddb9302965e40", func := "loop.example/g01169/laws.FnExactMultiplySums", spec := "fnExactMultiplySums", unfollowed := true, recurses := true, apart := false }
def FnExactMultiplySumsSaid : Prop := fnExactMultiplySumsRow.holds Tryz.pinned (OpenSpec.ofChange fnExactMultiplySumsSpec)

/-- ITS FALSE NEIGHBOUR: 'it returns false'. Refute it at one input. -/
def fnExactMultiplySumsWrong : ChangeSpec := { name := "fnExactMultiplySums", fn := fun _ => fun
  | [d1, d2] => { results := [.lit (.bool false)], args := [d1, d2] }
  | _ => none }
def FnExactMultiplySumsWrongFalsely : Prop := fnExactMultiplySumsRow.holds Tryz.pinned (OpenSpec.ofChange fnExactMultiplySumsWrong)

/-- 'laws.FnExactAddSums': WHATEVER THE INPUT: true; the input reads as it did. -/
def fnExactAddSumsSpec : ChangeSpec := { name := "fnExactAddSums", fn := fun _ => fun
  | [d1, d2] => { results := [.lit (.bool true)], args := [d1, d2] }
  | _ => none }
def fnExactAddSumsRow : OpenClaim := { program := "ytdblmdedfnmbpaagreat", sum := "2ec4fad1f08436d8e032b7295a97b79ade5ee823f47fd83c165ddb9302965e40", func := "loop.example/g01169/laws.FnExactAddSums", spec := "fnExactAddSums", inPlace := ["slices.overlaps[loop.example/g01169/impl.Term]"], unfollowed := true, recurses := true, apart := false }
def FnExactAddSumsSaid : Prop := fnExactAddSumsRow.holds Tryz.pinned (OpenSpec.ofChange fnExactAddSumsSpec)

/-- ITS FALSE NEIGHBOUR: 'it returns false'. Refute it at one input. -/
def fnExactAddSumsWrong : ChangeSpec := { name := "fnExactAddSums", fn := fun _ => fun
  | [d1, d2] => { results := [.lit (.bool false)], args := [d1, d2] }
  | _ => none }
def FnExactAddSumsWrongFalsely : Prop := fnExactAddSumsRow.holds Tryz.pinned (OpenSpec.ofChange fnExactAddSumsWrong)

/- THE SECOND FORM. 'bulk': how many values and letters a reading holds, each counted each time it is reached (what is shared counts as often as it is met; a slice's spare places count too). A statement '..UptoSaid' is the law's where the arguments, and the package variables that the reading takes, are together of bulk at most 1048576: NARROWER than '..Said'. Prove '..Said' where nothing that the law and all that it calls make is longer than what came in: it says more and counts as full. Else prove '..UptoSaid'. A law counts once. -/
mutual
def uptoBulk {H : Type} : DataW H → Nat
  | .lit (.string bytes) => bytes.length + 1
  | .lit _ => 1
  | .nil => 1
  | .ptr d => uptoBulk d + 1
  | .slice elems spare => uptoBulkAll elems + uptoBulkAll spare + 1
  | .agg parts => uptoBulkAll parts + 1
  | .iface _ d => uptoBulk d + 1
  | .map entries => uptoBulkEntries entries + 1
  | .held _ => 1
def uptoBulkAll {H : Type} : List (DataW H) → Nat
  | [] => 0
  | d :: r => uptoBulk d + uptoBulkAll r
def uptoBulkEntries {H : Type} : List (Lit × DataW H) → Nat
  | [] => 0
  | x :: r => uptoBulkEntry x + uptoBulkEntries r
def uptoBulkEntry {H : Type} : Lit × DataW H → Nat
  | (.string bytes, d) => bytes.length + uptoBulk d + 1
  | (_, d) => uptoBulk d + 1
 end
def uptoSmall : (H : Type) → List (DataW H) → Bool := fun _ ds => decide (uptoBulkAll ds ≤ 1048576)
def OpenSpec.upto (s : _root_.Go.ChangeSpec) : _root_.Go.OpenSpec := { _root_.Go.OpenSpec.ofChange s with cond := some uptoSmall }

/-- 'laws.FnExactRaiseSum', WHERE WHAT IT READS IS OF BULK AT MOST 1048576: true; the input reads as it did. -/
def fnExactRaiseSumUptoRow : OpenClaim := { program := "ytdblmdedfnmbpaagreat", sum := "2ec4fad1f08436d8e032b7295a97b79ade5ee823f47fd83c165ddb9302965e40", func := "loop.example/g01169/laws.FnExactRaiseSum", spec := "fnExactRaiseSum", unfollowed := true, recurses := true, apart := false, narrowed := true }
def FnExactRaiseSumUptoSaid : Prop := fnExactRaiseSumUptoRow.holds Tryz.pinned (OpenSpec.upto fnExactRaiseSumSpec)

/-- 'laws.FnExactAreEqualSums', WHERE WHAT IT READS IS OF BULK AT MOST 1048576: true; the input reads as it did. -/
def fnExactAreEqualSumsUptoRow : OpenClaim := { program := "ytdblmdedfnmbpaagreat", sum := "2ec4fad1f08436d8e032b7295a97b79ade5ee823f47fd83c165ddb9302965e40", func := "loop.example/g01169/laws.FnExactAreEqualSums", spec := "fnExactAreEqualSums", unfollowed := true, recurses := true, apart := false, narrowed := true }
def FnExactAreEqualSumsUptoSaid : Prop := fnExactAreEqualSumsUptoRow.holds Tryz.pinned (OpenSpec.upto fnExactAreEqualSumsSpec)

/-- 'laws.FnExactMultiplySums', WHERE WHAT IT READS IS OF BULK AT MOST 1048576: true; the input reads as it did. -/
def fnExactMultiplySumsUptoRow : OpenClaim := { program := "ytdblmdedfnmbpaagreat", sum := "2ec4fad1f08436d8e032b7295a97b79ade5ee823f47fd83c165ddb9302965e40", func := "loop.example/g01169/laws.FnExactMultiplySums", spec := "fnExactMultiplySums", unfollowed := true, recurses := true, apart := false, narrowed := true }
def FnExactMultiplySumsUptoSaid : Prop := fnExactMultiplySumsUptoRow.holds Tryz.pinned (OpenSpec.upto fnExactMultiplySumsSpec)

/-- 'laws.FnExactAddSums', WHERE WHAT IT READS IS OF BULK AT MOST 1048576: true; the input reads as it did. -/
def fnExactAddSumsUptoRow : OpenClaim := { program := "ytdblmdedfnmbpaagreat", sum := "2ec4fad1f08436d8e032b7295a97b79ade5ee823f47fd83c165ddb9302965e40", func := "loop.example/g01169/laws.FnExactAddSums", spec := "fnExactAddSums", inPlace := ["slices.overlaps[loop.example/g01169/impl.Term]"], unfollowed := true, recurses := true, apart := false, narrowed := true }
def FnExactAddSumsUptoSaid : Prop := fnExactAddSumsUptoRow.holds Tryz.pinned (OpenSpec.upto fnExactAddSumsSpec)

end Rows
end Go.Proofs.YtdblmdedfnmbpaaGreat

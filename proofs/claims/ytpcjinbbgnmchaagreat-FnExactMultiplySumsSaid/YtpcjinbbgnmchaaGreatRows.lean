/-
  No cell of these rows narrows 'for every input' (looked for: loops, veiled, ifaces, maps, wideKeys, modest, calm, conditions, laid).
  DERIVED. THE GIVEN ROWS OF THIS SEAT. 5 by the template 'for every input the law returns true; each argument reads behind the call as it read before'; 0 by the template 'total and deterministic' (their statements: YtpcjinbbgnmchaaGreatTotals.lean).
  GIVEN WITH THE SEED: the statements are not yours to turn. If you find one false, say at which input.
  Laid BY PROGRAM, IN A SANDBOX (cutbox-rows.mjs): the forced cells as the released guide's own fill.sh prints them over the translation 19429bb2e18f50cd… (all of the seat's roots in one cut). By AI agents, Wed Nov 11 2026. No macro, syntax, notation, axiom, sorry.
-/
import Derived.Test.YtpcjinbbgnmchaaGreatChecked
import GoSem.Claim
import GoSem.ClaimJoined
import GoSem.ClaimMapViews
import Derived.JoinedTies
import Derived.KernelRfl
namespace Go.Proofs.YtpcjinbbgnmchaaGreat
/- THE CELL 'sum', in the pinned program and in every row, IS THE sha256 OF THE DUMP (.gsa) THAT YtpcjinbbgnmchaaGreatProg.lean LOADS. Nothing in Lean hashes anything: it is a label: what it is worth is what the hold of that sum in a sandbox is worth. -/
noncomputable def Tryz.pinned : Pinned := { name := "ytpcjinbbgnmchaagreat", sum := "19429bb2e18f50cdc8b258ead08403a332d9cddb6caee2969ce4dfc29ca78f5f", checked := Tryz.checked }
namespace Rows
def none {H : Type} : Left H := { results := [], args := [] }

/-- 'laws.FnExactAreEqualSums': WHATEVER THE INPUT: true; the input reads as it did. -/
def fnExactAreEqualSumsSpec : ChangeSpec := { name := "fnExactAreEqualSums", fn := fun _ => fun
  | [d1, d2] => { results := [.lit (.bool true)], args := [d1, d2] }
  | _ => none }
def fnExactAreEqualSumsRow : OpenClaim := { program := "ytpcjinbbgnmchaagreat", sum := "19429bb2e18f50cdc8b258ead08403a332d9cddb6caee2969ce4dfc29ca78f5f", func := "loop.example/g01169/laws.FnExactAreEqualSums", spec := "fnExactAreEqualSums", unfollowed := true, recurses := true, apart := false }
def FnExactAreEqualSumsSaid : Prop := fnExactAreEqualSumsRow.holds Tryz.pinned (OpenSpec.ofChange fnExactAreEqualSumsSpec)

/-- ITS FALSE NEIGHBOUR: 'it returns false'. Refute it at one input. -/
def fnExactAreEqualSumsWrong : ChangeSpec := { name := "fnExactAreEqualSums", fn := fun _ => fun
  | [d1, d2] => { results := [.lit (.bool false)], args := [d1, d2] }
  | _ => none }
def FnExactAreEqualSumsWrongFalsely : Prop := fnExactAreEqualSumsRow.holds Tryz.pinned (OpenSpec.ofChange fnExactAreEqualSumsWrong)

/-- 'laws.FnExactMultiplySums': WHATEVER THE INPUT: true; the input reads as it did. -/
def fnExactMultiplySumsSpec : ChangeSpec := { name := "fnExactMultiplySums", fn := fun _ => fun
  | [d1, d2] => { results := [.lit (.bool true)], args := [d1, d2] }
  | _ => none }
def fnExactMultiplySumsRow : OpenClaim := { program := "ytpcjinbbgnmchaagreat", sum := "19429bb2e18f50cdc8b258ead08403a332d9cddb6caee2969ce4dfc29ca78f5f", func := "loop.example/g01169/laws.FnExactMultiplySums", spec := "fnExactMultiplySums", unfollowed := true, recurses := true, apart := false }
def FnExactMultiplySumsSaid : Prop := fnExactMultiplySumsRow.holds Tryz.pinned (OpenSpec.ofChange fnExactMultiplySumsSpec)

/-- ITS FALSE NEIGHBOUR: 'it returns false'. Refute it at one input. -/
def fnExactMultiplySumsWrong : ChangeSpec := { name := "fnExactMultiplySums", fn := fun _ => fun
  | [d1, d2] => { results := [.lit (.bool false)], args := [d1, d2] }
  | _ => none }
def FnExactMultiplySumsWrongFalsely : Prop := fnExactMultiplySumsRow.holds Tryz.pinned (OpenSpec.ofChange fnExactMultiplySumsWrong)

/-- 'laws.FnExactAddSums': WHATEVER THE INPUT: true; the input reads as it did. -/
def fnExactAddSumsSpec : ChangeSpec := { name := "fnExactAddSums", fn := fun _ => fun
  | [d1, d2] => { results := [.lit (.bool true)], args := [d1, d2] }
  | _ => none }
def fnExactAddSumsRow : OpenClaim := { program := "ytpcjinbbgnmchaagreat", sum := "19429bb2e18f50cdc8b258ead08403a332d9cddb6caee2969ce4dfc29ca78f5f", func := "loop.example/g01169/laws.FnExactAddSums", spec := "fnExactAddSums", inPlace := ["slices.overlaps[loop.example/g01169/impl.Term]"], unfollowed := true, recurses := true, apart := false }
def FnExactAddSumsSaid : Prop := fnExactAddSumsRow.holds Tryz.pinned (OpenSpec.ofChange fnExactAddSumsSpec)

/-- ITS FALSE NEIGHBOUR: 'it returns false'. Refute it at one input. -/
def fnExactAddSumsWrong : ChangeSpec := { name := "fnExactAddSums", fn := fun _ => fun
  | [d1, d2] => { results := [.lit (.bool false)], args := [d1, d2] }
  | _ => none }
def FnExactAddSumsWrongFalsely : Prop := fnExactAddSumsRow.holds Tryz.pinned (OpenSpec.ofChange fnExactAddSumsWrong)

/-- 'laws.FnExactValidCertificate': WHATEVER THE INPUT: true; the input reads as it did. -/
def fnExactValidCertificateSpec : ChangeSpec := { name := "fnExactValidCertificate", fn := fun _ => fun
  | [d1, d2] => { results := [.lit (.bool true)], args := [d1, d2] }
  | _ => none }
def fnExactValidCertificateRow : OpenClaim := { program := "ytpcjinbbgnmchaagreat", sum := "19429bb2e18f50cdc8b258ead08403a332d9cddb6caee2969ce4dfc29ca78f5f", func := "loop.example/g01169/laws.FnExactValidCertificate", spec := "fnExactValidCertificate", unfollowed := true, recurses := true, apart := false }
def FnExactValidCertificateSaid : Prop := fnExactValidCertificateRow.holds Tryz.pinned (OpenSpec.ofChange fnExactValidCertificateSpec)

/-- ITS FALSE NEIGHBOUR: 'it returns false'. Refute it at one input. -/
def fnExactValidCertificateWrong : ChangeSpec := { name := "fnExactValidCertificate", fn := fun _ => fun
  | [d1, d2] => { results := [.lit (.bool false)], args := [d1, d2] }
  | _ => none }
def FnExactValidCertificateWrongFalsely : Prop := fnExactValidCertificateRow.holds Tryz.pinned (OpenSpec.ofChange fnExactValidCertificateWrong)

/-- 'laws.FnExactAverageSum': WHATEVER THE INPUT: true; the input reads as it did. -/
def fnExactAverageSumSpec : ChangeSpec := { name := "fnExactAverageSum", fn := fun _ => fun
  | [d] => { results := [.lit (.bool true)], args := [d] }
  | _ => none }
def fnExactAverageSumRow : OpenClaim := { program := "ytpcjinbbgnmchaagreat", sum := "19429bb2e18f50cdc8b258ead08403a332d9cddb6caee2969ce4dfc29ca78f5f", func := "loop.example/g01169/laws.FnExactAverageSum", spec := "fnExactAverageSum", inPlace := ["slices.overlaps[loop.example/g01169/impl.Term]"], unfollowed := true, recurses := true, apart := false }
def FnExactAverageSumSaid : Prop := fnExactAverageSumRow.holds Tryz.pinned (OpenSpec.ofChange fnExactAverageSumSpec)

/-- ITS FALSE NEIGHBOUR: 'it returns false'. Refute it at one input. -/
def fnExactAverageSumWrong : ChangeSpec := { name := "fnExactAverageSum", fn := fun _ => fun
  | [d] => { results := [.lit (.bool false)], args := [d] }
  | _ => none }
def FnExactAverageSumWrongFalsely : Prop := fnExactAverageSumRow.holds Tryz.pinned (OpenSpec.ofChange fnExactAverageSumWrong)

/- THE SECOND FORM. 'bulk': how many values and letters a reading holds, each counted each time it is reached (what is shared counts as often as it is met; a slice's spare places count too). A statement '..UptoSaid' is the law's where the arguments, and the package variables that the reading takes, are together of bulk at most 1048576: NARROWER than '..Said'. Prove '..Said' where nothing that the law and all that it calls make is longer than what came in: it says more and counts as full. Else prove '..UptoSaid'. A law counts once. -/
mutual
def uptoBulk {H : Type} : DataW H → Nat
  | .lit (.string bytes) => bytes.length + 1
  | .lit _ => 1
  | .nil => 1
  | .ptr d => uptoBulk d + 1
  | .slice elems spare => uptoBulkAll elems + uptoBulkAll spare + 1
  | .agg parts => uptoBulkAll parts + 1
  | .iface _ d => uptoBulk d + 1
  | .map entries => uptoBulkEntries entries + 1
  | .held _ => 1
def uptoBulkAll {H : Type} : List (DataW H) → Nat
  | [] => 0
  | d :: r => uptoBulk d + uptoBulkAll r
def uptoBulkEntries {H : Type} : List (Lit × DataW H) → Nat
  | [] => 0
  | x :: r => uptoBulkEntry x + uptoBulkEntries r
def uptoBulkEntry {H : Type} : Lit × DataW H → Nat
  | (.string bytes, d) => bytes.length + uptoBulk d + 1
  | (_, d) => uptoBulk d + 1
 end
def uptoSmall : (H : Type) → List (DataW H) → Bool := fun _ ds => decide (uptoBulkAll ds ≤ 1048576)
def OpenSpec.upto (s : _root_.Go.ChangeSpec) : _root_.Go.OpenSpec := { _root_.Go.OpenSpec.ofChange s with cond := some uptoSmall }

/-- 'laws.FnExactAreEqualSums', WHERE WHAT IT READS IS OF BULK AT MOST 1048576: true; the input reads as it did. -/
def fnExactAreEqualSumsUptoRow : OpenClaim := { program := "ytpcjinbbgnmchaagreat", sum := "19429bb2e18f50cdc8b258ead08403a332d9cddb6caee2969ce4dfc29ca78f5f", func := "loop.example/g01169/laws.FnExactAreEqualSums", spec := "fnExactAreEqualSums", unfollowed := true, recurses := true, apart := false, narrowed := true }
def FnExactAreEqualSumsUptoSaid : Prop := fnExactAreEqualSumsUptoRow.holds Tryz.pinned (OpenSpec.upto fnExactAreEqualSumsSpec)

/-- 'laws.FnExactMultiplySums', WHERE WHAT IT READS IS OF BULK AT MOST 1048576: true; the input reads as it did. -/
def fnExactMultiplySumsUptoRow : OpenClaim := { program := "ytpcjinbbgnmchaagreat", sum := "19429bb2e18f50cdc8b258ead08403a332d9cddb6caee2969ce4dfc29ca78f5f", func := "loop.example/g01169/laws.FnExactMultiplySums", spec := "fnExactMultiplySums", unfollowed := true, recurses := true, apart := false, narrowed := true }
def FnExactMultiplySumsUptoSaid : Prop := fnExactMultiplySumsUptoRow.holds Tryz.pinned (OpenSpec.upto fnExactMultiplySumsSpec)

/-- 'laws.FnExactAddSums', WHERE WHAT IT READS IS OF BULK AT MOST 1048576: true; the input reads as it did. -/
def fnExactAddSumsUptoRow : OpenClaim := { program := "ytpcjinbbgnmchaagreat", sum := "19429bb2e18f50cdc8b258ead08403a332d9cddb6caee2969ce4dfc29ca78f5f", func := "loop.example/g01169/laws.FnExactAddSums", spec := "fnExactAddSums", inPlace := ["slices.overlaps[loop.example/g01169/impl.Term]"], unfollowed := true, recurses := true, apart := false, narrowed := true }
def FnExactAddSumsUptoSaid : Prop := fnExactAddSumsUptoRow.holds Tryz.pinned (OpenSpec.upto fnExactAddSumsSpec)

/-- 'laws.FnExactValidCertificate', WHERE WHAT IT READS IS OF BULK AT MOST 1048576: true; the input reads as it did. -/
def fnExactValidCertificateUptoRow : OpenClaim := { program := "ytpcjinbbgnmchaagreat", sum := "19429bb2e18f50cdc8b258ead08403a332d9cddb6caee2969ce4dfc29ca78f5f", func := "loop.example/g01169/laws.FnExactValidCertificate", spec := "fnExactValidCertificate", unfollowed := true, recurses := true, apart := false, narrowed := true }
def FnExactValidCertificateUptoSaid : Prop := fnExactValidCertificateUptoRow.holds Tryz.pinned (OpenSpec.upto fnExactValidCertificateSpec)

/-- 'laws.FnExactAverageSum', WHERE WHAT IT READS IS OF BULK AT MOST 1048576: true; the input reads as it did. -/
def fnExactAverageSumUptoRow : OpenClaim := { program := "ytpcjinbbgnmchaagreat", sum := "19429bb2e18f50cdc8b258ead08403a332d9cddb6caee2969ce4dfc29ca78f5f", func := "loop.example/g01169/laws.FnExactAverageSum", spec := "fnExactAverageSum", inPlace := ["slices.overlaps[loop.example/g01169/impl.Term]"], unfollowed := true, recurses := true, apart := false, narrowed := true }
def FnExactAverageSumUptoSaid : Prop := fnExactAverageSumUptoRow.holds Tryz.pinned (OpenSpec.upto fnExactAverageSumSpec)

end Rows
end Go.Proofs.YtpcjinbbgnmchaaGreat

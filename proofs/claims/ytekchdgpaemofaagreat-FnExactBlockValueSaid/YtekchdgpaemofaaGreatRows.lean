/-
  No cell of these rows narrows 'for every input' (looked for: loops, veiled, ifaces, maps, wideKeys, modest, calm, conditions, laid).
  DERIVED. THE GIVEN ROWS OF THIS SEAT. 7 by the template 'for every input the law returns true; each argument reads behind the call as it read before'; 0 by the template 'total and deterministic' (their statements: YtekchdgpaemofaaGreatTotals.lean).
  GIVEN WITH THE SEED: the statements are not yours to turn. If you find one false, say at which input.
  Laid BY PROGRAM, IN A SANDBOX (cutbox-rows.mjs): the forced cells as the released guide's own fill.sh prints them over the translation d30e8cf032d7f53f… (all of the seat's roots in one cut). By AI agents, Wed Nov 11 2026. No macro, syntax, notation, axiom, sorry.
-/
import Derived.Test.YtekchdgpaemofaaGreatChecked
import GoSem.Claim
import GoSem.ClaimJoined
import GoSem.ClaimMapViews
import Derived.JoinedTies
import Derived.KernelRfl
namespace Go.Proofs.YtekchdgpaemofaaGreat
/- THE CELL 'sum', in the pinned program and in every row, IS THE sha256 OF THE DUMP (.gsa) THAT YtekchdgpaemofaaGreatProg.lean LOADS. Nothing in Lean hashes anything: it is a label: what it is worth is what the hold of that sum in a sandbox is worth. -/
noncomputable def Tryz.pinned : Pinned := { name := "ytekchdgpaemofaagreat", sum := "d30e8cf032d7f53f8612da6030c19f31623eb80adf131d74ff650826c1b50881", checked := Tryz.checked }
namespace Rows
def none {H : Type} : Left H := { results := [], args := [] }

/-- 'laws.FnExactFormSum': WHATEVER THE INPUT: true; the input reads as it did. -/
def fnExactFormSumSpec : ChangeSpec := { name := "fnExactFormSum", fn := fun _ => fun
  | [d1, d2] => { results := [.lit (.bool true)], args := [d1, d2] }
  | _ => none }
def fnExactFormSumRow : OpenClaim := { program := "ytekchdgpaemofaagreat", sum := "d30e8cf032d7f53f8612da6030c19f31623eb80adf131d74ff650826c1b50881", func := "loop.example/g01169/laws.FnExactFormSum", spec := "fnExactFormSum", inPlace := ["slices.overlaps[loop.example/g01169/impl.Term]"], unfollowed := true, recurses := true, apart := false }
def FnExactFormSumSaid : Prop := fnExactFormSumRow.holds Tryz.pinned (OpenSpec.ofChange fnExactFormSumSpec)

/-- ITS FALSE NEIGHBOUR: 'it returns false'. Refute it at one input. -/
def fnExactFormSumWrong : ChangeSpec := { name := "fnExactFormSum", fn := fun _ => fun
  | [d1, d2] => { results := [.lit (.bool false)], args := [d1, d2] }
  | _ => none }
def FnExactFormSumWrongFalsely : Prop := fnExactFormSumRow.holds Tryz.pinned (OpenSpec.ofChange fnExactFormSumWrong)

/-- 'laws.FnExactPairAverages': WHATEVER THE INPUT: true; the input reads as it did. -/
def fnExactPairAveragesSpec : ChangeSpec := { name := "fnExactPairAverages", fn := fun _ => fun
  | [d1, d2] => { results := [.lit (.bool true)], args := [d1, d2] }
  | _ => none }
def fnExactPairAveragesRow : OpenClaim := { program := "ytekchdgpaemofaagreat", sum := "d30e8cf032d7f53f8612da6030c19f31623eb80adf131d74ff650826c1b50881", func := "loop.example/g01169/laws.FnExactPairAverages", spec := "fnExactPairAverages", unfollowed := true, recurses := true, apart := false }
def FnExactPairAveragesSaid : Prop := fnExactPairAveragesRow.holds Tryz.pinned (OpenSpec.ofChange fnExactPairAveragesSpec)

/-- ITS FALSE NEIGHBOUR: 'it returns false'. Refute it at one input. -/
def fnExactPairAveragesWrong : ChangeSpec := { name := "fnExactPairAverages", fn := fun _ => fun
  | [d1, d2] => { results := [.lit (.bool false)], args := [d1, d2] }
  | _ => none }
def FnExactPairAveragesWrongFalsely : Prop := fnExactPairAveragesRow.holds Tryz.pinned (OpenSpec.ofChange fnExactPairAveragesWrong)

/-- 'laws.FnExactBlockValue': WHATEVER THE INPUT: true; the input reads as it did. -/
def fnExactBlockValueSpec : ChangeSpec := { name := "fnExactBlockValue", fn := fun _ => fun
  | [d1, d2] => { results := [.lit (.bool true)], args := [d1, d2] }
  | _ => none }
def fnExactBlockValueRow : OpenClaim := { program := "ytekchdgpaemofaagreat", sum := "d30e8cf032d7f53f8612da6030c19f31623eb80adf131d74ff650826c1b50881", func := "loop.example/g01169/laws.FnExactBlockValue", spec := "fnExactBlockValue", unfollowed := true, recurses := true, apart := false }
def FnExactBlockValueSaid : Prop := fnExactBlockValueRow.holds Tryz.pinned (OpenSpec.ofChange fnExactBlockValueSpec)

/-- ITS FALSE NEIGHBOUR: 'it returns false'. Refute it at one input. -/
def fnExactBlockValueWrong : ChangeSpec := { name := "fnExactBlockValue", fn := fun _ => fun
  | [d1, d2] => { results := [.lit (.bool false)], args := [d1, d2] }
  | _ => none }
def FnExactBlockValueWrongFalsely : Prop := fnExactBlockValueRow.holds Tryz.pinned (OpenSpec.ofChange fnExactBlockValueWrong)

/-- 'laws.FnExactMergeCertificates': WHATEVER THE INPUT: true; the input reads as it did. -/
def fnExactMergeCertificatesSpec : ChangeSpec := { name := "fnExactMergeCertificates", fn := fun _ => fun
  | [d1, d2, d3] => { results := [.lit (.bool true)], args := [d1, d2, d3] }
  | _ => none }
def fnExactMergeCertificatesRow : OpenClaim := { program := "ytekchdgpaemofaagreat", sum := "d30e8cf032d7f53f8612da6030c19f31623eb80adf131d74ff650826c1b50881", func := "loop.example/g01169/laws.FnExactMergeCertificates", spec := "fnExactMergeCertificates", unfollowed := true, recurses := true, apart := false }
def FnExactMergeCertificatesSaid : Prop := fnExactMergeCertificatesRow.holds Tryz.pinned (OpenSpec.ofChange fnExactMergeCertificatesSpec)

/-- ITS FALSE NEIGHBOUR: 'it returns false'. Refute it at one input. -/
def fnExactMergeCertificatesWrong : ChangeSpec := { name := "fnExactMergeCertificates", fn := fun _ => fun
  | [d1, d2, d3] => { results := [.lit (.bool false)], args := [d1, d2, d3] }
  | _ => none }
def FnExactMergeCertificatesWrongFalsely : Prop := fnExactMergeCertificatesRow.holds Tryz.pinned (OpenSpec.ofChange fnExactMergeCertificatesWrong)

/-- 'laws.FnExactShrinkCertificate': WHATEVER THE INPUT: true; the input reads as it did. -/
def fnExactShrinkCertificateSpec : ChangeSpec := { name := "fnExactShrinkCertificate", fn := fun _ => fun
  | [d1, d2] => { results := [.lit (.bool true)], args := [d1, d2] }
  | _ => none }
def fnExactShrinkCertificateRow : OpenClaim := { program := "ytekchdgpaemofaagreat", sum := "d30e8cf032d7f53f8612da6030c19f31623eb80adf131d74ff650826c1b50881", func := "loop.example/g01169/laws.FnExactShrinkCertificate", spec := "fnExactShrinkCertificate", unfollowed := true, recurses := true, apart := false }
def FnExactShrinkCertificateSaid : Prop := fnExactShrinkCertificateRow.holds Tryz.pinned (OpenSpec.ofChange fnExactShrinkCertificateSpec)

/-- ITS FALSE NEIGHBOUR: 'it returns false'. Refute it at one input. -/
def fnExactShrinkCertificateWrong : ChangeSpec := { name := "fnExactShrinkCertificate", fn := fun _ => fun
  | [d1, d2] => { results := [.lit (.bool false)], args := [d1, d2] }
  | _ => none }
def FnExactShrinkCertificateWrongFalsely : Prop := fnExactShrinkCertificateRow.holds Tryz.pinned (OpenSpec.ofChange fnExactShrinkCertificateWrong)

/-- 'laws.FnExactSlackAt': WHATEVER THE INPUT: true; the input reads as it did. -/
def fnExactSlackAtSpec : ChangeSpec := { name := "fnExactSlackAt", fn := fun _ => fun
  | [d1, d2, d3] => { results := [.lit (.bool true)], args := [d1, d2, d3] }
  | _ => none }
def fnExactSlackAtRow : OpenClaim := { program := "ytekchdgpaemofaagreat", sum := "d30e8cf032d7f53f8612da6030c19f31623eb80adf131d74ff650826c1b50881", func := "loop.example/g01169/laws.FnExactSlackAt", spec := "fnExactSlackAt", unfollowed := true, recurses := true, apart := false }
def FnExactSlackAtSaid : Prop := fnExactSlackAtRow.holds Tryz.pinned (OpenSpec.ofChange fnExactSlackAtSpec)

/-- ITS FALSE NEIGHBOUR: 'it returns false'. Refute it at one input. -/
def fnExactSlackAtWrong : ChangeSpec := { name := "fnExactSlackAt", fn := fun _ => fun
  | [d1, d2, d3] => { results := [.lit (.bool false)], args := [d1, d2, d3] }
  | _ => none }
def FnExactSlackAtWrongFalsely : Prop := fnExactSlackAtRow.holds Tryz.pinned (OpenSpec.ofChange fnExactSlackAtWrong)

/-- 'laws.FnExactSlacksOf': WHATEVER THE INPUT: true; the input reads as it did. -/
def fnExactSlacksOfSpec : ChangeSpec := { name := "fnExactSlacksOf", fn := fun _ => fun
  | [d1, d2] => { results := [.lit (.bool true)], args := [d1, d2] }
  | _ => none }
def fnExactSlacksOfRow : OpenClaim := { program := "ytekchdgpaemofaagreat", sum := "d30e8cf032d7f53f8612da6030c19f31623eb80adf131d74ff650826c1b50881", func := "loop.example/g01169/laws.FnExactSlacksOf", spec := "fnExactSlacksOf", unfollowed := true, recurses := true, apart := false }
def FnExactSlacksOfSaid : Prop := fnExactSlacksOfRow.holds Tryz.pinned (OpenSpec.ofChange fnExactSlacksOfSpec)

/-- ITS FALSE NEIGHBOUR: 'it returns false'. Refute it at one input. -/
def fnExactSlacksOfWrong : ChangeSpec := { name := "fnExactSlacksOf", fn := fun _ => fun
  | [d1, d2] => { results := [.lit (.bool false)], args := [d1, d2] }
  | _ => none }
def FnExactSlacksOfWrongFalsely : Prop := fnExactSlacksOfRow.holds Tryz.pinned (OpenSpec.ofChange fnExactSlacksOfWrong)

/- THE SECOND FORM. 'bulk': how many values and letters a reading holds, each counted each time it is reached (what is shared counts as often as it is met; a slice's spare places count too). A statement '..UptoSaid' is the law's where the arguments, and the package variables that the reading takes, are together of bulk at most 1048576: NARROWER than '..Said'. Prove '..Said' where nothing that the law and all that it calls make is longer than what came in: it says more and counts as full. Else prove '..UptoSaid'. A law counts once. -/
mutual
def uptoBulk {H : Type} : DataW H → Nat
  | .lit (.string bytes) => bytes.length + 1
  | .lit _ => 1
  | .nil => 1
  | .ptr d => uptoBulk d + 1
  | .slice elems spare => uptoBulkAll elems + uptoBulkAll spare + 1
  | .agg parts => uptoBulkAll parts + 1
  | .iface _ d => uptoBulk d + 1
  | .map entries => uptoBulkEntries entries + 1
  | .held _ => 1
def uptoBulkAll {H : Type} : List (DataW H) → Nat
  | [] => 0
  | d :: r => uptoBulk d + uptoBulkAll r
def uptoBulkEntries {H : Type} : List (Lit × DataW H) → Nat
  | [] => 0
  | x :: r => uptoBulkEntry x + uptoBulkEntries r
def uptoBulkEntry {H : Type} : Lit × DataW H → Nat
  | (.string bytes, d) => bytes.length + uptoBulk d + 1
  | (_, d) => uptoBulk d + 1
 end
def uptoSmall : (H : Type) → List (DataW H) → Bool := fun _ ds => decide (uptoBulkAll ds ≤ 1048576)
def OpenSpec.upto (s : _root_.Go.ChangeSpec) : _root_.Go.OpenSpec := { _root_.Go.OpenSpec.ofChange s with cond := some uptoSmall }

/-- 'laws.FnExactFormSum', WHERE WHAT IT READS IS OF BULK AT MOST 1048576: true; the input reads as it did. -/
def fnExactFormSumUptoRow : OpenClaim := { program := "ytekchdgpaemofaagreat", sum := "d30e8cf032d7f53f8612da6030c19f31623eb80adf131d74ff650826c1b50881", func := "loop.example/g01169/laws.FnExactFormSum", spec := "fnExactFormSum", inPlace := ["slices.overlaps[loop.example/g01169/impl.Term]"], unfollowed := true, recurses := true, apart := false, narrowed := true }
def FnExactFormSumUptoSaid : Prop := fnExactFormSumUptoRow.holds Tryz.pinned (OpenSpec.upto fnExactFormSumSpec)

/-- 'laws.FnExactPairAverages', WHERE WHAT IT READS IS OF BULK AT MOST 1048576: true; the input reads as it did. -/
def fnExactPairAveragesUptoRow : OpenClaim := { program := "ytekchdgpaemofaagreat", sum := "d30e8cf032d7f53f8612da6030c19f31623eb80adf131d74ff650826c1b50881", func := "loop.example/g01169/laws.FnExactPairAverages", spec := "fnExactPairAverages", unfollowed := true, recurses := true, apart := false, narrowed := true }
def FnExactPairAveragesUptoSaid : Prop := fnExactPairAveragesUptoRow.holds Tryz.pinned (OpenSpec.upto fnExactPairAveragesSpec)

/-- 'laws.FnExactBlockValue', WHERE WHAT IT READS IS OF BULK AT MOST 1048576: true; the input reads as it did. -/
def fnExactBlockValueUptoRow : OpenClaim := { program := "ytekchdgpaemofaagreat", sum := "d30e8cf032d7f53f8612da6030c19f31623eb80adf131d74ff650826c1b50881", func := "loop.example/g01169/laws.FnExactBlockValue", spec := "fnExactBlockValue", unfollowed := true, recurses := true, apart := false, narrowed := true }
def FnExactBlockValueUptoSaid : Prop := fnExactBlockValueUptoRow.holds Tryz.pinned (OpenSpec.upto fnExactBlockValueSpec)

/-- 'laws.FnExactMergeCertificates', WHERE WHAT IT READS IS OF BULK AT MOST 1048576: true; the input reads as it did. -/
def fnExactMergeCertificatesUptoRow : OpenClaim := { program := "ytekchdgpaemofaagreat", sum := "d30e8cf032d7f53f8612da6030c19f31623eb80adf131d74ff650826c1b50881", func := "loop.example/g01169/laws.FnExactMergeCertificates", spec := "fnExactMergeCertificates", unfollowed := true, recurses := true, apart := false, narrowed := true }
def FnExactMergeCertificatesUptoSaid : Prop := fnExactMergeCertificatesUptoRow.holds Tryz.pinned (OpenSpec.upto fnExactMergeCertificatesSpec)

/-- 'laws.FnExactShrinkCertificate', WHERE WHAT IT READS IS OF BULK AT MOST 1048576: true; the input reads as it did. -/
def fnExactShrinkCertificateUptoRow : OpenClaim := { program := "ytekchdgpaemofaagreat", sum := "d30e8cf032d7f53f8612da6030c19f31623eb80adf131d74ff650826c1b50881", func := "loop.example/g01169/laws.FnExactShrinkCertificate", spec := "fnExactShrinkCertificate", unfollowed := true, recurses := true, apart := false, narrowed := true }
def FnExactShrinkCertificateUptoSaid : Prop := fnExactShrinkCertificateUptoRow.holds Tryz.pinned (OpenSpec.upto fnExactShrinkCertificateSpec)

/-- 'laws.FnExactSlackAt', WHERE WHAT IT READS IS OF BULK AT MOST 1048576: true; the input reads as it did. -/
def fnExactSlackAtUptoRow : OpenClaim := { program := "ytekchdgpaemofaagreat", sum := "d30e8cf032d7f53f8612da6030c19f31623eb80adf131d74ff650826c1b50881", func := "loop.example/g01169/laws.FnExactSlackAt", spec := "fnExactSlackAt", unfollowed := true, recurses := true, apart := false, narrowed := true }
def FnExactSlackAtUptoSaid : Prop := fnExactSlackAtUptoRow.holds Tryz.pinned (OpenSpec.upto fnExactSlackAtSpec)

/-- 'laws.FnExactSlacksOf', WHERE WHAT IT READS IS OF BULK AT MOST 1048576: true; the input reads as it did. -/
def fnExactSlacksOfUptoRow : OpenClaim := { program := "ytekchdgpaemofaagreat", sum := "d30e8cf032d7f53f8612da6030c19f31623eb80adf131d74ff650826c1b50881", func := "loop.example/g01169/laws.FnExactSlacksOf", spec := "fnExactSlacksOf", unfollowed := true, recurses := true, apart := false, narrowed := true }
def FnExactSlacksOfUptoSaid : Prop := fnExactSlacksOfUptoRow.holds Tryz.pinned (OpenSpec.upto fnExactSlacksOfSpec)

end Rows
end Go.Proofs.YtekchdgpaemofaaGreat

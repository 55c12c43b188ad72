/-
  No cell of these rows narrows 'for every input' (looked for: loops, veiled, ifaces, maps, wideKeys, modest, calm, conditions, laid).
  DERIVED. THE GIVEN ROWS OF THIS SEAT. 2 by the template 'for every input the law returns true; each argument reads behind the call as it read before'; 0 by the template 'total and deterministic' (their statements: YtenaiegidcjanaaTotals.lean).
  GIVEN WITH THE SEED: the statements are not yours to turn. If you find one false, say at which input.
  Laid BY PROGRAM, IN A SANDBOX (cutbox-rows.mjs): the forced cells as the released guide's own fill.sh prints them over the translation 905052c66113d920… (all of the seat's roots in one cut). By AI agents, Wed Nov 11 2026. No macro, syntax, notation, axiom, sorry.
-/
import Derived.Test.YtenaiegidcjanaaChecked
import GoSem.Claim
import GoSem.ClaimJoined
import GoSem.ClaimMapViews
import Derived.JoinedTies
import Derived.KernelRfl
namespace Go.Proofs.Ytenaiegidcjanaa
/- THE CELL 'sum', in the pinned program and in every row, IS THE sha256 OF THE DUMP (.gsa) THAT YtenaiegidcjanaaProg.lean LOADS. Nothing in Lean hashes anything: it is a label: what it is worth is what the hold of that sum in a sandbox is worth. -/
noncomputable def Try.pinned : Pinned := { name := "ytenaiegidcjanaa", sum := "905052c66113d920cd6c4e6c6fd30f1a0a0f264dbc9671a1a0c979e7c7e28d5d", checked := Try.checked }
namespace Rows
def none {H : Type} : Left H := { results := [], args := [] }

/-- 'laws.FnExactSameCertificate': WHATEVER THE INPUT: true; the input reads as it did. -/
def fnExactSameCertificateSpec : ChangeSpec := { name := "fnExactSameCertificate", fn := fun _ => fun
  | [d1, d2] => { results := [.lit (.bool true)], args := [d1, d2] }
  | _ => none }
def fnExactSameCertificateRow : OpenClaim := { program := "ytenaiegidcjanaa", sum := "905052c66113d920cd6c4e6c6fd30f1a0a0f264dbc9671a1a0c979e7c7e28d5d", func := "loop.example/g01169/laws.FnExactSameCertificate", spec := "fnExactSameCertificate", unfollowed := true, recurses := true, apart := false }
def FnExactSameCertificateSaid : Prop := fnExactSameCertificateRow.holds Try.pinned (OpenSpec.ofChange fnExactSameCertificateSpec)

/-- ITS FALSE NEIGHBOUR: 'it returns false'. Refute it at one input. -/
def fnExactSameCertificateWrong : ChangeSpec := { name := "fnExactSameCertificate", fn := fun _ => fun
  | [d1, d2] => { results := [.lit (.bool false)], args := [d1, d2] }
  | _ => none }
def FnExactSameCertificateWrongFalsely : Prop := fnExactSameCertificateRow.holds Try.pinned (OpenSpec.ofChange fnExactSameCertificateWrong)

/-- 'laws.FnExactFromSquares': WHATEVER THE INPUT: true; the input reads as it did. -/
def fnExactFromSquaresSpec : ChangeSpec := { name := "fnExactFromSquares", fn := fun _ => fun
  | [d1, d2] => { results := [.lit (.bool true)], args := [d1, d2] }
  | _ => none }
def fnExactFromSquaresRow : OpenClaim := { program := "ytenaiegidcjanaa", sum := "905052c66113d920cd6c4e6c6fd30f1a0a0f264dbc9671a1a0c979e7c7e28d5d", func := "loop.example/g01169/laws.FnExactFromSquares", spec := "fnExactFromSquares", unfollowed := true, recurses := true, apart := false }
def FnExactFromSquaresSaid : Prop := fnExactFromSquaresRow.holds Try.pinned (OpenSpec.ofChange fnExactFromSquaresSpec)

/-- ITS FALSE NEIGHBOUR: 'it returns false'. Refute it at one input. -/
def fnExactFromSquaresWrong : ChangeSpec := { name := "fnExactFromSquares", fn := fun _ => fun
  | [d1, d2] => { results := [.lit (.bool false)], args := [d1, d2] }
  | _ => none }
def FnExactFromSquaresWrongFalsely : Prop := fnExactFromSquaresRow.holds Try.pinned (OpenSpec.ofChange fnExactFromSquaresWrong)

/- THE SECOND FORM. 'bulk': how many values and letters a reading holds, each counted each time it is reached (what is shared counts as often as it is met; a slice's spare places count too). A statement '..UptoSaid' is the law's where the arguments, and the package variables that the reading takes, are together of bulk at most 1048576: NARROWER than '..Said'. Prove '..Said' where nothing that the law and all that it calls make is longer than what came in: it says more and counts as full. Else prove '..UptoSaid'. A law counts once. -/
mutual
def uptoBulk {H : Type} : DataW H → Nat
  | .lit (.string bytes) => bytes.length + 1
  | .lit _ => 1
  | .nil => 1
  | .ptr d => uptoBulk d + 1
  | .slice elems spare => uptoBulkAll elems + uptoBulkAll spare + 1
  | .agg parts => uptoBulkAll parts + 1
  | .iface _ d => uptoBulk d + 1
  | .map entries => uptoBulkEntries entries + 1
  | .held _ => 1
def uptoBulkAll {H : Type} : List (DataW H) → Nat
  | [] => 0
  | d :: r => uptoBulk d + uptoBulkAll r
def uptoBulkEntries {H : Type} : List (Lit × DataW H) → Nat
  | [] => 0
  | x :: r => uptoBulkEntry x + uptoBulkEntries r
def uptoBulkEntry {H : Type} : Lit × DataW H → Nat
  | (.string bytes, d) => bytes.length + uptoBulk d + 1
  | (_, d) => uptoBulk d + 1
 end
def uptoSmall : (H : Type) → List (DataW H) → Bool := fun _ ds => decide (uptoBulkAll ds ≤ 1048576)
def OpenSpec.upto (s : _root_.Go.ChangeSpec) : _root_.Go.OpenSpec := { _root_.Go.OpenSpec.ofChange s with cond := some uptoSmall }

/-- 'laws.FnExactSameCertificate', WHERE WHAT IT READS IS OF BULK AT MOST 1048576: true; the input reads as it did. -/
def fnExactSameCertificateUptoRow : OpenClaim := { program := "ytenaiegidcjanaa", sum := "905052c66113d920cd6c4e6c6fd30f1a0a0f264dbc9671a1a0c979e7c7e28d5d", func := "loop.example/g01169/laws.FnExactSameCertificate", spec := "fnExactSameCertificate", unfollowed := true, recurses := true, apart := false, narrowed := true }
def FnExactSameCertificateUptoSaid : Prop := fnExactSameCertificateUptoRow.holds Try.pinned (OpenSpec.upto fnExactSameCertificateSpec)

/-- 'laws.FnExactFromSquares', WHERE WHAT IT READS IS OF BULK AT MOST 1048576: true; the input reads as it did. -/
def fnExactFromSquaresUptoRow : OpenClaim := { program := "ytenaiegidcjanaa", sum := "905052c66113d920cd6c4e6c6fd30f1a0a0f264dbc9671a1a0c979e7c7e28d5d", func := "loop.example/g01169/laws.FnExactFromSquares", spec := "fnExactFromSquares", unfollowed := true, recurses := true, apart := false, narrowed := true }
def FnExactFromSquaresUptoSaid : Prop := fnExactFromSquaresUptoRow.holds Try.pinned (OpenSpec.upto fnExactFromSquaresSpec)

end Rows
end Go.Proofs.Ytenaiegidcjanaa

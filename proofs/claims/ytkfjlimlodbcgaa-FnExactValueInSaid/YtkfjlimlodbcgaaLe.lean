/- impl.leasts. -/
import Derived.Test.YtkfjlimlodbcgaaFp
import Derived.Test.YtkfjlimlodbcgaaSl
namespace Go.Proofs.Ytkfjlimlodbcgaa
open Go.ChangeShapes Go.WideShapes Go.RowKit
set_option linter.unusedVariables false
set_option linter.unusedSimpArgs false
attribute [local irreducible] Calls
def lsTo (n q : Nat) (P : Int → Bool) (k : Nat) : List (Int × Int) := ((((List.range k).map fun (e : Nat) => (e : Int)).filter fun e => P e && (leastI n q e == e)).map fun e => ((n : Int), e))
theorem lsTo_t {n q : Nat} {P : Int → Bool} {k : Nat} (h1 : P k = true) (h2 : (leastI n q k == (k : Int)) = true) : lsTo n q P (k + 1) = lsTo n q P k ++ [((n : Int), (k : Int))] := by
  simp [lsTo, List.range_succ, h1, h2, List.filter_cons]
theorem lsTo_f1 {n q : Nat} {P : Int → Bool} {k : Nat} (h1 : P k = false) : lsTo n q P (k + 1) = lsTo n q P k := by
  simp [lsTo, List.range_succ, h1, List.filter_cons]
theorem lsTo_f2 {n q : Nat} {P : Int → Bool} {k : Nat} (h2 : (leastI n q k == (k : Int)) = false) : lsTo n q P (k + 1) = lsTo n q P k := by
  simp [lsTo, List.range_succ, h2, List.filter_cons]
theorem lsTo_len (n q : Nat) (P : Int → Bool) (k : Nat) : (lsTo n q P k).length ≤ k := by
  have := List.length_filter_le (fun e => P e && (leastI n q e == e)) ((List.range k).map fun (e : Nat) => (e : Int))
  simpa [lsTo] using this
/-- A list of graphs is handed out. -/
def GrsRet (B : Nat) (w : World) (L : List (Int × Int)) (e : Ending) (w' : World) : Prop := ∃ A cap F, e = .returned (.slice A L.length cap) ∧ Own shGr B w' L (.slice A L.length cap) F ∧ Below w.heap.size w w'
end Go.Proofs.Ytkfjlimlodbcgaa

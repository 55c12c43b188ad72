/- Small helps for the laws over matrices. -/
import Derived.Test.YtkfjlimlodbcgaaMt
import Derived.Test.YtkfjlimlodbcgaaMSum
namespace Go.Proofs.Ytkfjlimlodbcgaa
open Go.ChangeShapes Go.WideShapes Go.ChangeAt Go.RowKit
set_option linter.unusedVariables false
theorem lenSS_matL (m n : Nat) (D : Nat → Nat → Int × Int) : lenSS (matL m n D) = m * n := by
  induction m with
  | zero => simp [matL, lenSS]
  | succ m ih =>
    rw [matL_succ]
    have e : lenSS (matL m n D ++ [rowL n (D m)]) = lenSS (matL m n D) + (rowL n (D m)).length := by simp [lenSS]
    rw [e, ih, rowL_len, Nat.add_mul, Nat.one_mul]
/-- What is one's own stays so where others turn, at once over a step up. -/
theorem Own.bchg {s : Sh} {B : Nat} {w W w' : World} {xs : List s.T} {v : Value} {F F' : List Nat} (h : Own s B w xs v F) (hb : Below w.heap.size w W) (hc : Chg F' W w') (hd : ∀ b ∈ F, b ∉ F') : Own s B w' xs v F := (h.below (Nat.le_refl _) hb).chg hc hd
end Go.Proofs.Ytkfjlimlodbcgaa

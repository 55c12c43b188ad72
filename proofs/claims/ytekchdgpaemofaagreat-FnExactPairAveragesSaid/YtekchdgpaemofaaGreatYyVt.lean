import Derived.IntWalk
import Derived.Test.YtekchdgpaemofaaGreatYyMt
import Derived.Test.YtekchdgpaemofaaGreatYyMSum
import Derived.Test.YtekchdgpaemofaaGreatYyJh
import Derived.Test.YtekchdgpaemofaaGreatYyVs
import Derived.Test.YtekchdgpaemofaaGreatYyVq
import Derived.Test.YtekchdgpaemofaaGreatYyGk
import Derived.Test.YtekchdgpaemofaaGreatYySl
namespace Go.Proofs.YtekchdgpaemofaaGreat
open Go.ChangeShapes Go.WideShapes Go.ChangeAt Go.RowKit
set_option linter.unusedVariables false
theorem lenSS_matL (m n : Nat) (D : Nat → Nat → Int × Int) : lenSS (matL m n D) = m * n := by
  induction m with
  | zero => simp [matL, lenSS]
  | succ m ih =>
    rw [matL_succ]
    have e : lenSS (matL m n D ++ [rowL n (D m)]) = lenSS (matL m n D) + (rowL n (D m)).length := by simp [lenSS]
    rw [e, ih, rowL_len, Nat.add_mul, Nat.one_mul]
end Go.Proofs.YtekchdgpaemofaaGreat

namespace Go.Proofs.YtekchdgpaemofaaGreat
open Go.ChangeShapes Go.WideShapes Go.RowKit
set_option linter.unusedVariables false
set_option linter.unusedSimpArgs false
attribute [local irreducible] Calls
theorem tk_ok {fs : List Flg} {va sa : Bool} {fr : Int} (h : tkC fs va sa fr = 0) : flagsB fs = true ∧ va = true ∧ sa = true ∧ 0 < fs.length ∧ fs.length ≤ 8 ∧ alikesB fs = true ∧ 2 * ((hdF fs).2.1 - (hdF fs).1) ≤ fr := by
  unfold tkC at h
  split at h
  · rename_i h1
    rw [Bool.and_eq_true] at h1
    split at h
    · cases h
    · split at h
      · cases h
      · split at h
        · rename_i h2
          rw [Bool.and_eq_true] at h2
          split at h
          · cases h
          · exact ⟨h1.1, h1.2, h2.2, by omega, by omega, h2.1, by omega⟩
        · cases h
  · cases h
end Go.Proofs.YtekchdgpaemofaaGreat

namespace Go.Proofs.YtekchdgpaemofaaGreat
open Go.ChangeShapes Go.WideShapes Go.RowKit
set_option linter.unusedVariables false
set_option linter.unusedSimpArgs false
attribute [local irreducible] Calls

theorem sleast_i (w : World) (d : Flg) (hd : okFlag d) (h : flV d = true) : Calls Tryz.prog 123 #[.agg #[.int .i64 d.1, .int .i64 d.2.1, .int .u32 d.2.2]] w fun e0 w' => e0 = .returned (.agg #[.int .i64 d.1, .int .i64 d.2.1, .int .u32 (leastF d)]) ∧ Below w.heap.size w w' := by
  obtain ⟨k, n, h1, h2, h3, h4, h5⟩ := flN h
  have := l03Least_any' w n k d.2.2 h4 h3 hd.2.2
  rw [leastF, h1, h2]
  exact this
end Go.Proofs.YtekchdgpaemofaaGreat

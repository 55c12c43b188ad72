import Derived.IntWalk
import Derived.Test.YtekchdgpaemofaaGreatYyVs
import Derived.Test.YtekchdgpaemofaaGreatYyVq
import Derived.Test.YtekchdgpaemofaaGreatYyDu
import Derived.Test.YtekchdgpaemofaaGreatYySl
namespace Go.Proofs.YtekchdgpaemofaaGreat
open Go.ChangeShapes Go.WideShapes Go.RowKit
set_option linter.unusedVariables false
set_option linter.unusedSimpArgs false
attribute [local irreducible] Calls

theorem sleast_i (w : World) (d : Flg) (hd : okFlag d) (h : flV d = true) : Calls Tryz.prog 123 #[.agg #[.int .i64 d.1, .int .i64 d.2.1, .int .u32 d.2.2]] w fun e0 w' => e0 = .returned (.agg #[.int .i64 d.1, .int .i64 d.2.1, .int .u32 (leastF d)]) ∧ Below w.heap.size w w' := by
  obtain ⟨k, n, h1, h2, h3, h4, h5⟩ := flN h
  have := l03Least_any' w n k d.2.2 h4 h3 hd.2.2
  rw [leastF, h1, h2]
  exact this
end Go.Proofs.YtekchdgpaemofaaGreat

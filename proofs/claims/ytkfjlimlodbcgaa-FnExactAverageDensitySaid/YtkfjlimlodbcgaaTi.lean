/- spec.ThroughSize. -/
import Derived.Test.YtkfjlimlodbcgaaTh
import Derived.Test.YtkfjlimlodbcgaaFe
import Derived.Test.YtkfjlimlodbcgaaSli
namespace Go.Proofs.Ytkfjlimlodbcgaa
open Go.ChangeShapes Go.WideShapes Go.RowKit
set_option linter.unusedVariables false
set_option linter.unusedSimpArgs false
attribute [local irreducible] Calls
theorem rmul_ok (x y p : Int × Int) (w : World) (hx : inF x) (hy : inF y) (h : mulO x y = some p) :
    Calls Try.prog 104 #[.agg #[.int .i64 x.1, .int .i64 x.2], .agg #[.int .i64 y.1, .int .i64 y.2]] w fun e w' => e = .returned (.tuple #[.agg #[.int .i64 p.1, .int .i64 p.2], .int .i64 0]) ∧ Below w.heap.size w w' := by
  have := rmul_any x y w hx hy
  rw [h] at this
  exact this
theorem radd_ok (x y p : Int × Int) (w : World) (hx : inF x) (hy : inF y) (h : addO x y = some p) :
    Calls Try.prog 37 #[.agg #[.int .i64 x.1, .int .i64 x.2], .agg #[.int .i64 y.1, .int .i64 y.2]] w fun e w' => e = .returned (.tuple #[.agg #[.int .i64 p.1, .int .i64 p.2], .int .i64 0]) ∧ Below w.heap.size w w' := by
  have := radd_any x y w hx hy
  rw [h] at this
  exact this
end Go.Proofs.Ytkfjlimlodbcgaa

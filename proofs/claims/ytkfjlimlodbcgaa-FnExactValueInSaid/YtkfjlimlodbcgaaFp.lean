/- Parts and free graphs, impl: isLeast, hasPart, free. -/
import Derived.Test.YtkfjlimlodbcgaaPp
import Derived.Test.YtkfjlimlodbcgaaAl
import Derived.Test.YtkfjlimlodbcgaaIx
namespace Go.Proofs.Ytkfjlimlodbcgaa
open Go.ChangeShapes Go.WideShapes Go.RowKit
set_option linter.unusedVariables false
set_option linter.unusedSimpArgs false
attribute [local irreducible] Calls
theorem arrs_ok {n m : Nat} (hn : n ≤ 5) (hm : m ≤ 5) : ∀ L ∈ arrs n m, VL L := by
  intro L hL
  by_cases h : m ≤ n
  · exact ((arrs_all hn h).2.2 L hL).1
  · rw [arrs_none hn hm (by omega)] at hL
    cases hL
end Go.Proofs.Ytkfjlimlodbcgaa

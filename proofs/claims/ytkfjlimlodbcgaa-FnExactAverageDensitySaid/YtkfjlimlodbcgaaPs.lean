/- Parts and free graphs, spec: l01Part, l01Free. -/
import Derived.Test.YtkfjlimlodbcgaaPp
import Derived.Test.YtkfjlimlodbcgaaGl
import Derived.Test.YtkfjlimlodbcgaaGo
import Derived.Test.YtkfjlimlodbcgaaSl
namespace Go.Proofs.Ytkfjlimlodbcgaa
open Go.ChangeShapes Go.WideShapes Go.RowKit
set_option linter.unusedVariables false
set_option linter.unusedSimpArgs false
attribute [local irreducible] Calls
theorem partB_and (gn hm : Nat) {ge he : Int} (hh : okI .u32 he) : partB gn ge hm he = (arrs gn hm).any fun L => bits .and .u32 he (onE ge L) == he := by
  unfold partB
  congr 1
  funext L
  exact andNot_and hh (onE_ok _ _)
end Go.Proofs.Ytkfjlimlodbcgaa

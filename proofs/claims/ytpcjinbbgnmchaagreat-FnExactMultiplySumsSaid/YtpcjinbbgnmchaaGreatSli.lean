/- Lists of fractions, spec: l02List, SumOfFractions, l02Dot, DotOf. -/
import Derived.Test.YtpcjinbbgnmchaaGreatFk
import Derived.Test.YtpcjinbbgnmchaaGreatSl
import Derived.BigGuardPart
import Derived.Deep.RegionHeld3
namespace Go.Proofs.YtpcjinbbgnmchaaGreat
open Go.ChangeShapes Go.WideShapes Go.ChangeAt Go.RowKit
set_option linter.unusedVariables false
set_option linter.unusedSimpArgs false
attribute [local irreducible] Calls
theorem sZero_any (w : World) : Calls Tryz.prog 94 #[] w fun e w' => e = .returned (.agg #[.int .i64 0, .int .i64 1]) ∧ Below w.heap.size w w' := by
  go_enter Tryz.func94, Tryz.ntmps94
  go_wp2
  exact bodyPost_ret (v := .agg #[.int .i64 0, .int .i64 1]) (by simp [results, Tryz.results94, go_sem]) rfl ⟨rfl, belA⟩
end Go.Proofs.YtpcjinbbgnmchaaGreat

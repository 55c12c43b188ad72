/- What the laws on fractions share: the copies of fractions, their equality, how a fraction argument lies. -/

import Derived.Test.YtpcjinbbgnmchaaProg
import Derived.Test.YtpcjinbbgnmchaaSl
import Derived.BigGuardPart
import Derived.Deep.RegionHeld3
import Derived.Deep.DeepCutAuto
namespace Go.Proofs.Ytpcjinbbgnmchaa
open Go.ChangeShapes Go.WideShapes Go.ChangeAt Go.RowKit
set_option linter.unusedVariables false
set_option linter.unusedSimpArgs false


theorem eqFraction_same (p q : Int) (w : World) :
    Calls Try.prog 77 #[.agg #[.int .i64 p, .int .i64 q], .agg #[.int .i64 p, .int .i64 q]] w fun e w' => e = .returned (.bool true) ∧ Below w.heap.size w w' := by
  have h1 : (p != p) = false := by simp
  have h2 : (q != q) = false := by simp
  go_enter Try.func77, Try.ntmps77
  go_wp2
  go_ret
  exact ⟨rfl, belA⟩

theorem toFraction_any (p q : Int) (w : World) :
    Calls Try.prog 8 #[.agg #[.int .i64 p, .int .i64 q]] w fun e w' => e = .returned (.agg #[.int .i64 p, .int .i64 q]) ∧ Below w.heap.size w w' := by
  go_enter Try.func8, Try.ntmps8
  go_wp2
  exact bodyPost_ret (v := .agg #[.int .i64 p, .int .i64 q]) (by simp [results, Try.results8, go_sem]) rfl ⟨rfl, belA⟩

theorem readsFrL : Reads Try.prog shFr 29 :=
  reads_struct Try.underlying29 (by kernel_rfl) (readsF_cons rfl (by kernel_rfl) (reads_int Try.underlying2) (readsF_one rfl (by kernel_rfl) (reads_int Try.underlying2)))

end Go.Proofs.Ytpcjinbbgnmchaa

/- Forbidden graphs: impl.forbiddenOk, spec.l01Forbidden. -/
import Derived.Test.YtkfjlimlodbcgaaGx
import Derived.Test.YtkfjlimlodbcgaaSl
import Derived.Test.YtkfjlimlodbcgaaIx
namespace Go.Proofs.Ytkfjlimlodbcgaa
open Go.ChangeShapes Go.WideShapes Go.RowKit
set_option linter.unusedVariables false
set_option linter.unusedSimpArgs false
attribute [local irreducible] Calls
def badGr (d : Int × Int) : Bool := !grOk d.1 d.2
/-- The code of forbidden graphs. -/
def forbC (gs : List (Int × Int)) : Int := if anyB badGr gs then 1 else if 6 < gs.length then 3 else 0
theorem forbC_cases (gs : List (Int × Int)) : forbC gs = 0 ∨ forbC gs = 1 ∨ forbC gs = 3 := by
  unfold forbC
  split
  · simp
  · split <;> simp
theorem forbC_ok {gs : List (Int × Int)} (h : forbC gs = 0) : gs.length ≤ 6 ∧ ∀ d ∈ gs, 0 ≤ d.1 ∧ d.1 ≤ 5 := by
  unfold forbC at h
  split at h
  · omega
  · rename_i hb
    split at h
    · omega
    · refine ⟨by omega, fun d hd => ?_⟩
      have : badGr d ≠ true := fun hx => hb (List.any_eq_true.2 ⟨d, hd, hx⟩)
      simp [badGr, grOk, inB] at this
      exact this.1
end Go.Proofs.Ytkfjlimlodbcgaa

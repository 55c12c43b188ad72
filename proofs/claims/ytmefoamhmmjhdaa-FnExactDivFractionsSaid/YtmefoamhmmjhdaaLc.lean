/- What the laws on fractions share: the copies of fractions, their equality, how a fraction argument lies. -/
import Derived.Test.YtmefoamhmmjhdaaRows
import Derived.Test.YtmefoamhmmjhdaaProg
import Derived.Test.YtmefoamhmmjhdaaRow
import Derived.Test.YtmefoamhmmjhdaaRep
import Derived.BigGuardPart
import Derived.Deep.RegionHeld3
import Derived.Deep.DeepCutAuto
namespace Go.Proofs.Ytmefoamhmmjhdaa
open Go.ChangeShapes Go.WideShapes Go.ChangeAt Go.RowKit
set_option linter.unusedVariables false
set_option linter.unusedSimpArgs false

theorem tryOwn : ownKnob Try.prog.godebug = none := by kernel_rfl
theorem tryLaid : laidOutB Try.prog = true := by kernel_rfl

theorem eqFraction_same (p q : Int) (w : World) :
    Calls Try.prog 11 #[.agg #[.int .i64 p, .int .i64 q], .agg #[.int .i64 p, .int .i64 q]] w fun e w' => e = .returned (.bool true) ∧ Below w.heap.size w w' := by
  have h1 : (p != p) = false := by simp
  have h2 : (q != q) = false := by simp
  go_enter Try.func11, Try.ntmps11
  go_wp2
  go_ret
  exact ⟨rfl, (by (try refine bsz ?_); repeat (first | exact Below.refl _ _ | assumption | refine Below.setCell ?_ (by simp <;> omega) _ | refine bpl ?_ _ _ | refine bal ?_ _ | refine bdrew ?_ _))⟩

theorem toFraction_any (p q : Int) (w : World) :
    Calls Try.prog 13 #[.agg #[.int .i64 p, .int .i64 q]] w fun e w' => e = .returned (.agg #[.int .i64 p, .int .i64 q]) ∧ Below w.heap.size w w' := by
  go_enter Try.func13, Try.ntmps13
  go_wp2
  exact bodyPost_ret (v := .agg #[.int .i64 p, .int .i64 q]) (by simp [results, Try.results13, go_sem]) rfl ⟨rfl, (by (try refine bsz ?_); repeat (first | exact Below.refl _ _ | assumption | refine Below.setCell ?_ (by simp <;> omega) _ | refine bpl ?_ _ _ | refine bal ?_ _ | refine bdrew ?_ _))⟩

theorem readsFrL : Reads Try.prog shFr 28 :=
  reads_struct Try.underlying28 (by kernel_rfl) (readsF_cons rfl (by kernel_rfl) (reads_int Try.underlying2) (readsF_one rfl (by kernel_rfl) (reads_int Try.underlying2)))

end Go.Proofs.Ytmefoamhmmjhdaa

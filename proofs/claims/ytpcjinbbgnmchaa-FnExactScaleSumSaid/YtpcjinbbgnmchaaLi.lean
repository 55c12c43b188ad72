/- Lists of fractions, impl: validList, SumOfFractions, dot, DotOf. -/
import Derived.Test.YtpcjinbbgnmchaaFk
import Derived.Test.YtpcjinbbgnmchaaIx
import Derived.Deep.AppendLies
import Derived.Deep.RegionLaw
namespace Go.Proofs.Ytpcjinbbgnmchaa
open Go.ChangeShapes Go.WideShapes Go.ChangeAt Go.RowKit
set_option linter.unusedVariables false
set_option linter.unusedSimpArgs false
attribute [local irreducible] Calls
def badF (d : Int × Int) : Bool := !frOk d.1 d.2
theorem badFraction_any (d : Int × Int) (w : World) (hd : okFr d) : Calls Try.prog 24 #[.agg #[.int .i64 d.1, .int .i64 d.2]] w fun e w' => e = .returned (.bool (badF d)) ∧ Below w.heap.size w w' := by
  obtain ⟨i1, i2⟩ := i64_wf hd.1
  obtain ⟨i3, i4⟩ := i64_wf hd.2
  go_enter Try.func24, Try.ntmps24
  go_wp2_with (first | (go_at_call 54; refine Calls.mono (valid_any _ _ _ i1 i2 i3 i4) ?_; rintro e w1 ⟨rfl, hb⟩; obtain ⟨X, m, rfl⟩ := plsOf hb; clear hb))
  exact bodyPost_ret (v := .bool (!frOk d.1 d.2)) (by simp [results, Try.results24, go_sem]) rfl ⟨rfl, belA⟩
theorem listOk_bad {xs : List (Int × Int)} : listOk xs = (decide (xs.length ≤ 256) && !anyB badF xs) := by
  unfold listOk anyB badF
  rw [List.all_eq_not_any_not]
/-- A fraction is returned, and the mark tells whether it is right. -/
def FrRet (b o : Nat) (r : Option (Int × Int)) (w : World) (e : Ending) (w' : World) : Prop := ∃ (d : Int × Int) (g' : Bool), e = .returned (.agg #[.int .i64 d.1, .int .i64 d.2]) ∧ Tr r d g' ∧ Fl b o w g' w'
end Go.Proofs.Ytpcjinbbgnmchaa

/- The laws' copies and equality of impl.Flag. -/
import Derived.Test.YtmefoamhmmjhdaaProg
import Derived.Test.YtmefoamhmmjhdaaSl
import Derived.Test.YtmefoamhmmjhdaaLaw
import Derived.BigGuardPart
import Derived.Deep.RegionHeld3
import Derived.Test.YtmefoamhmmjhdaaLFlag
import Derived.Test.YtmefoamhmmjhdaaTGraph
namespace Go.Proofs.Ytmefoamhmmjhdaa
open Go.ChangeShapes Go.WideShapes Go.ChangeAt Go.RowKit
set_option linter.unusedVariables false
set_option linter.unusedSimpArgs false

theorem toFlag_any (x0 x1 x2 : Int) (w : World) :
    Calls Try.prog 63 #[.agg #[.int .i64 x0, .int .i64 x1, .int .u32 x2]] w fun e w' => e = .returned (.agg #[.int .i64 x0, .int .i64 x1, .int .u32 x2]) ∧ Below w.heap.size w w' := by
  go_enter Try.func63, Try.ntmps63
  go_wp2_with (first | (go_at_call 49; refine Calls.mono (toGraph_any _ _ _) ?_; rintro e w1 ⟨rfl, hb⟩; obtain ⟨X, m, rfl⟩ := plsOf hb; clear hb))
  exact bodyPost_ret (v := .agg #[.int .i64 x0, .int .i64 x1, .int .u32 x2]) (by simp [results, Try.results63, go_sem]) rfl ⟨rfl, (by (try with_reducible refine bsz ?_); repeat (first | with_reducible exact Below.refl _ _ | ((with_reducible refine bpre ?_); (try simp only [Array.append_assoc]); repeat (first | with_reducible exact Pre.refl _ | with_reducible exact Pre.base _ _ | with_reducible refine Pre.cons _ ?_)) | with_reducible assumption | ((with_reducible refine bsetr ?_); rfl) | with_reducible refine Below.setCell ?_ (by simp <;> omega) _ | with_reducible refine bpl ?_ _ _ | with_reducible refine bal ?_ _ | with_reducible refine bdrew1 ?_ | with_reducible refine bdrew ?_ _))⟩
theorem eqFlag_same (x0 x1 x2 : Int) (w : World) :
    Calls Try.prog 64 #[.agg #[.int .i64 x0, .int .i64 x1, .int .u32 x2], .agg #[.int .i64 x0, .int .i64 x1, .int .u32 x2]] w fun e w' => e = .returned (.bool true) ∧ Below w.heap.size w w' := by
  have h0 : (x0 != x0) = false := by simp
  go_enter Try.func64, Try.ntmps64
  go_wp2_with (first | (go_at_call 52; refine Calls.mono (eqGraph_same _ _ _) ?_; rintro e w1 ⟨rfl, hb⟩; obtain ⟨X, m, rfl⟩ := plsOf hb; clear hb))
  go_ret
  exact ⟨rfl, (by (try with_reducible refine bsz ?_); repeat (first | with_reducible exact Below.refl _ _ | ((with_reducible refine bpre ?_); (try simp only [Array.append_assoc]); repeat (first | with_reducible exact Pre.refl _ | with_reducible exact Pre.base _ _ | with_reducible refine Pre.cons _ ?_)) | with_reducible assumption | ((with_reducible refine bsetr ?_); rfl) | with_reducible refine Below.setCell ?_ (by simp <;> omega) _ | with_reducible refine bpl ?_ _ _ | with_reducible refine bal ?_ _ | with_reducible refine bdrew1 ?_ | with_reducible refine bdrew ?_ _))⟩
end Go.Proofs.Ytmefoamhmmjhdaa

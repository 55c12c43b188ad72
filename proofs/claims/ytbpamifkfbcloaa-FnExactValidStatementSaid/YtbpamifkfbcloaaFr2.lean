/- What the program's functions for use from outside on fractions return. -/
import Derived.Test.YtbpamifkfbcloaaFr
import Derived.BigGuardPart
import Derived.Deep.RegionHeld3
import Derived.Shelf.Abstract
namespace Go.Proofs.Ytbpamifkfbcloaa
open Go.RowKit
set_option linter.unusedVariables false
set_option linter.unusedSimpArgs false

theorem valid_any (p q : Int) (w : World) (h : -9223372036854775808 ≤ p) (h2 : p ≤ 9223372036854775807) (h3 : -9223372036854775808 ≤ q) (h4 : q ≤ 9223372036854775807) :
    Calls Try.prog 62 #[.agg #[.int .i64 p, .int .i64 q]] w fun e w' => e = .returned (.bool (frOk p q)) ∧ Below w.heap.size w w' := by
  go_enter Try.func62, Try.ntmps62
  go_wp2_with (first | (go_at_call 100; refine Calls.mono (gcd_any _ _ _ (by omega) (by omega) (by omega) (by omega)) ?_; rintro e w1 ⟨rfl, n, rfl⟩))
  all_goals go_ret
  all_goals refine ⟨ret_bool ?_, (by (try with_reducible refine bsz ?_); repeat (first | with_reducible exact Below.refl _ _ | ((with_reducible refine bpre ?_); (try simp only [Array.append_assoc]); repeat (first | with_reducible exact Pre.refl _ | with_reducible exact Pre.base _ _ | with_reducible refine Pre.cons _ ?_)) | with_reducible assumption | ((with_reducible refine bsetr ?_); rfl) | with_reducible refine Below.setCell ?_ (by simp <;> omega) _ | with_reducible refine bpl ?_ _ _ | with_reducible refine bal ?_ _ | with_reducible refine bdrew1 ?_ | with_reducible refine bdrew ?_ _))⟩
  all_goals rw [Bool.eq_iff_iff, frOk_iff]
  all_goals simp
  all_goals omega

/-- What a function value on the sums makes in every world above w. -/
def Makes (f : FuncId) (caps : Array Value) (w : World) (x y : Int) (z : Bool) : Prop :=
  ∀ (W : World) (g : Nat), Below w.heap.size w W → w.heap.size ≤ g → g < W.heap.size → W.cell? ⟨g, 0, none⟩ = some (.bool false) → W.frozen? ⟨g, 0, none⟩ = false →
    Calls Try.prog f (#[.pointer (some ⟨g, 0, none⟩)] ++ caps) W fun e W' => e = .returned (.agg #[.int .i64 x, .int .i64 y]) ∧ Below W.heap.size (W.setCell ⟨g, 0, none⟩ (.bool z)) W'

theorem in_any (n a b : Int) (w : World) : Calls Try.prog 49 #[.int .i64 n, .int .i64 a, .int .i64 b] w fun e w' => e = .returned (.bool (inB n a b)) ∧ w = w' := by
  go_enter Try.func49, Try.ntmps49
  go_wp2
  all_goals go_ret
  all_goals exact ⟨ret_bool (by simp [inB]; omega), rfl⟩

end Go.Proofs.Ytbpamifkfbcloaa

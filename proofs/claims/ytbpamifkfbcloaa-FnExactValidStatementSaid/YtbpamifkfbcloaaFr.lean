/- What the program's functions on single fractions return: the gcd, lowest terms, the sums that keep 0 where a fraction is too large. -/
import Derived.Test.YtbpamifkfbcloaaProg
import Derived.Test.YtbpamifkfbcloaaBase
namespace Go.Proofs.Ytbpamifkfbcloaa
open Go.RowKit
set_option linter.unusedVariables false
set_option linter.unusedSimpArgs false

theorem size_any (n : Int) (w : World) (h : -9223372036854775808 < n) (h2 : n ≤ 9223372036854775807) :
    Calls Try.prog 122 #[.int .i64 n] w fun e w' => e = .returned (.int .i64 (absI n)) ∧ w = w' := by
  go_enter Try.func122, Try.ntmps122
  go_wp2
  all_goals go_ret
  all_goals exact ⟨ret_int (by unfold absI; omega), rfl⟩

theorem gcd_any (a b : Int) (w : World) (h : -9223372036854775808 < a) (h2 : a ≤ 9223372036854775807) (h3 : -9223372036854775808 < b) (h4 : b ≤ 9223372036854775807) :
    Calls Try.prog 100 #[.int .i64 a, .int .i64 b] w fun e w' => e = .returned (.int .i64 (Int.gcd a b : Int)) ∧ ∃ n, w' = w.drewN n := by
  go_enter Try.func100, Try.ntmps100
  go_wp2
  go_loopw [0, 1] (fun u v w' => ∃ x y : Int, u = .int .i64 x ∧ v = .int .i64 y ∧ -9223372036854775808 < x ∧ x ≤ 9223372036854775807 ∧ -9223372036854775808 < y ∧ y ≤ 9223372036854775807 ∧ Hid (Int.gcd x y = Int.gcd a b) ∧ ∃ n, w' = w.drewN n) (fun _ v _ => (intOf v).natAbs)
  case atStart => exact ⟨a, b, rfl, rfl, h, h2, h3, h4, rfl, 0, rfl⟩
  case round =>
    obtain ⟨x, y, rfl, rfl, hx1, hx2, hy1, hy2, H, n, rfl⟩ := hrel
    by_cases hy : y = 0
    · subst hy
      go_wp2_with (go_at_call 122; refine (size_any _ _ (by omega) (by omega)).mono ?_; rintro e w' ⟨rfl, rfl⟩)
      go_ret
      exact ⟨ret_int (by rw [← H.out, Int.gcd_zero_right]; rfl), n, rfl⟩
    · have hb1 : (y == 0) = false := by simpa using hy
      have hb2 : (y != 0) = true := by simpa using hy
      have t1 : (x.tmod y).natAbs < y.natAbs := by rw [Int.natAbs_tmod]; exact Nat.mod_lt _ (by omega)
      go_wp2
      go_quiet (fail)
      go_wp2
      go_roundw
      case rel => exact ⟨y, x.tmod y, rfl, rfl, by omega, by omega, by omega, by omega, (by have := gcd_step x y; rw [this]; exact H.out), _, World.drewN_drewN _ _ _⟩
      case measure => simp only [intOf]; omega

theorem zero_any (w : World) :
    Calls Try.prog 67 #[] w fun e w' => e = .returned (.agg #[.int .i64 0, .int .i64 1]) ∧ Below w.heap.size w w' := by
  go_enter Try.func67, Try.ntmps67
  go_wp2
  exact bodyPost_ret (v := .agg #[.int .i64 0, .int .i64 1]) (by simp [results, Try.results67, go_sem]) rfl ⟨rfl, bal (Below.refl _ _) _⟩

end Go.Proofs.Ytbpamifkfbcloaa

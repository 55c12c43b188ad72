/- What the reference's functions on single fractions return: the same plain functions. -/
import Derived.Test.YtbpamifkfbcloaaProg
import Derived.Test.YtbpamifkfbcloaaBase
import Derived.BigGuardPart
namespace Go.Proofs.Ytbpamifkfbcloaa
open Go.RowKit
set_option linter.unusedVariables false
set_option linter.unusedSimpArgs false

theorem sin_any (n a b : Int) (w : World) : Calls Try.prog 75 #[.int .i64 n, .int .i64 a, .int .i64 b] w fun e w' => e = .returned (.bool (inB n a b)) ∧ w = w' := by
  go_enter Try.func75, Try.ntmps75
  go_wp2
  all_goals go_ret
  all_goals exact ⟨ret_bool (by simp [inB]; omega), rfl⟩

theorem sabs_any (n : Int) (w : World) (h : -9223372036854775808 < n) (h2 : n ≤ 9223372036854775807) :
    Calls Try.prog 121 #[.int .i64 n] w fun e w' => e = .returned (.int .i64 (absI n)) ∧ w = w' := by
  go_enter Try.func121, Try.ntmps121
  go_wp2
  all_goals go_ret
  all_goals exact ⟨ret_int (by unfold absI; omega), rfl⟩

theorem scommon_any (a b : Int) (w : World) (h : 0 ≤ a) (h2 : a ≤ 9223372036854775807) (h3 : 0 ≤ b) (h4 : b ≤ 9223372036854775807) :
    Calls Try.prog 120 #[.int .i64 a, .int .i64 b] w fun e w' => e = .returned (.int .i64 (Int.gcd a b : Int)) ∧ w = w' := by
  go_enter Try.func120, Try.ntmps120
  go_wp2
  go_loop [0, 1] (fun u v => ∃ x y : Int, u = .int .i64 x ∧ v = .int .i64 y ∧ 0 ≤ x ∧ x ≤ 9223372036854775807 ∧ 0 ≤ y ∧ y ≤ 9223372036854775807 ∧ Hid (Int.gcd x y = Int.gcd a b)) (fun _ v => (intOf v).natAbs)
  case atStart => exact ⟨a, b, rfl, rfl, h, h2, h3, h4, rfl⟩
  case round =>
    obtain ⟨x, y, rfl, rfl, hx1, hx2, hy1, hy2, H⟩ := hrel
    by_cases hy : y = 0
    · subst hy
      go_wp2
      go_ret
      exact ⟨ret_int (by rw [← H.out, Int.gcd_zero_right]; omega), rfl⟩
    · have hb1 : (y == 0) = false := by simpa using hy
      have hb2 : (y != 0) = true := by simpa using hy
      have t1 : 0 ≤ x % y := Int.emod_nonneg _ hy
      have t2 : x % y < y := Int.emod_lt_of_pos _ (by omega)
      go_wp2
      go_round
      case rel => exact ⟨y, x % y, rfl, rfl, by omega, by omega, by omega, by omega, (by have := gcd_step x y; rw [Int.tmod_eq_emod_of_nonneg hx1] at this; rw [this]; exact H.out)⟩
      case measure => simp only [intOf]; omega

end Go.Proofs.Ytbpamifkfbcloaa

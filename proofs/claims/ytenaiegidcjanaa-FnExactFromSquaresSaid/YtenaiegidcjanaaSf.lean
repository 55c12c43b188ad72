/- What the reference's functions on single fractions return: the same plain functions. -/
import Derived.Test.YtenaiegidcjanaaProg
import Derived.Test.YtenaiegidcjanaaBase
import Derived.BigGuardPart
namespace Go.Proofs.Ytenaiegidcjanaa
open Go.RowKit
set_option linter.unusedVariables false
set_option linter.unusedSimpArgs false

theorem sin_any (n a b : Int) (w : World) : Calls Try.prog 66 #[.int .i64 n, .int .i64 a, .int .i64 b] w fun e w' => e = .returned (.bool (inB n a b)) ∧ w = w' := by
  go_enter Try.func66, Try.ntmps66
  go_wp2
  all_goals go_ret
  all_goals exact ⟨ret_bool (by simp [inB]; omega), rfl⟩

theorem sabs_any (n : Int) (w : World) (h : -9223372036854775808 < n) (h2 : n ≤ 9223372036854775807) :
    Calls Try.prog 68 #[.int .i64 n] w fun e w' => e = .returned (.int .i64 (absI n)) ∧ w = w' := by
  go_enter Try.func68, Try.ntmps68
  go_wp2
  all_goals go_ret
  all_goals exact ⟨ret_int (by unfold absI; omega), rfl⟩

theorem scommon_any (a b : Int) (w : World) (h : 0 ≤ a) (h2 : a ≤ 9223372036854775807) (h3 : 0 ≤ b) (h4 : b ≤ 9223372036854775807) :
    Calls Try.prog 67 #[.int .i64 a, .int .i64 b] w fun e w' => e = .returned (.int .i64 (Int.gcd a b : Int)) ∧ w = w' := by
  go_enter Try.func67, Try.ntmps67
  go_wp2
  go_loop [0, 1] (fun u v => ∃ x y : Int, u = .int .i64 x ∧ v = .int .i64 y ∧ 0 ≤ x ∧ x ≤ 9223372036854775807 ∧ 0 ≤ y ∧ y ≤ 9223372036854775807 ∧ Hid (Int.gcd x y = Int.gcd a b)) (fun _ v => (intOf v).natAbs)
  case atStart => exact ⟨a, b, rfl, rfl, h, h2, h3, h4, rfl⟩
  case round =>
    obtain ⟨x, y, rfl, rfl, hx1, hx2, hy1, hy2, H⟩ := hrel
    by_cases hy : y = 0
    · subst hy
      go_wp2
      go_ret
      exact ⟨ret_int (by rw [← H.out, Int.gcd_zero_right]; omega), rfl⟩
    · have hb1 : (y == 0) = false := by simpa using hy
      have hb2 : (y != 0) = true := by simpa using hy
      have t1 : 0 ≤ x % y := Int.emod_nonneg _ hy
      have t2 : x % y < y := Int.emod_lt_of_pos _ (by omega)
      go_wp2
      go_round
      case rel => exact ⟨y, x % y, rfl, rfl, by omega, by omega, by omega, by omega, (by have := gcd_step x y; rw [Int.tmod_eq_emod_of_nonneg hx1] at this; rw [this]; exact H.out)⟩
      case measure => simp only [intOf]; omega

theorem slowest_any (p q : Int) (w : World) (h : -9223372036854775808 < p) (h2 : p ≤ 9223372036854775807) (h3 : -9223372036854775808 < q) (h4 : q ≤ 9223372036854775807) (hq : q ≠ 0) :
    Calls Try.prog 69 #[.int .i64 p, .int .i64 q] w fun e w' => e = .returned (.tuple #[.agg #[.int .i64 (resP (lowP p q) (lowQ p q)), .int .i64 (resQ (lowP p q) (lowQ p q))], .int .i64 (resC (lowP p q) (lowQ p q))]) ∧ Below w.heap.size w w' := by
  have hg := gcd_pos' p q hq
  have hg2 := gcd_le' p q hq
  have hg3 : ((Int.gcd p q : Int) == 0) = false := by rw [beq_eq_false_iff_ne]; omega
  obtain ⟨tp1, tp2⟩ := tdiv_bd p (Int.gcd p q) h h2
  obtain ⟨tq1, tq2⟩ := tdiv_bd q (Int.gcd p q) h3 h4
  have hga : Int.gcd (absI p) q = Int.gcd p q := gcd_absI p q
  have hgb : Int.gcd (absI (-p)) (-q) = Int.gcd p q := by rw [gcd_absI]; simp
  obtain ⟨i1, i2⟩ := absI_bd p
  obtain ⟨i3, i4⟩ := absI_bd (-p)
  by_cases hn : q < 0
  · have e1 : lowP p q = -(p.tdiv (Int.gcd p q)) := if_pos hn
    have e2 : lowQ p q = -(q.tdiv (Int.gcd p q)) := if_pos hn
    rw [e1, e2]
    clear e1 e2
    have HG := Lib.hid hgb
    clear hga hgb
    obtain ⟨x, hx⟩ : ∃ x, -(p.tdiv (Int.gcd p q)) = x := ⟨_, rfl⟩
    obtain ⟨y, hy⟩ : ∃ y, -(q.tdiv (Int.gcd p q)) = y := ⟨_, rfl⟩
    obtain ⟨j1, j2⟩ := absI_bd x
    rw [hx, hy]
    by_cases s1 : absI x ≤ 1000000000
    · by_cases s2 : y ≤ 1000000000
      · have hs : smallB x y = true := by simp only [smallB, s1, s2, decide_true, Bool.and_self]
        go_enter Try.func69, Try.ntmps69
        go_wp2_with (fail)
        refine (sabs_any _ _ (by omega) (by omega)).mono ?_
        rintro e w1 ⟨rfl, rfl⟩
        go_wp2_with (fail)
        refine (scommon_any _ _ _ (by omega) (by omega) (by omega) (by omega)).mono ?_
        rintro e w1 ⟨rfl, rfl⟩
        rw [HG.out]
        go_wp2
        go_region
        go_wp2_with (fail)
        refine (sabs_any _ _ (by omega) (by omega)).mono ?_
        rintro e w1 ⟨rfl, rfl⟩
        go_wp2
        all_goals first | (exfalso; omega) | exact bodyPost_ret (v := .tuple #[.agg #[.int .i64 x, .int .i64 y], .int .i64 0]) (by simp [results, Try.results69, go_sem]) rfl ⟨by simp only [resP, resQ, resC, hs]; rfl, (by (try with_reducible refine bsz ?_); repeat (first | with_reducible exact Below.refl _ _ | ((with_reducible refine bpre ?_); (try simp only [Array.append_assoc]); repeat (first | with_reducible exact Pre.refl _ | with_reducible exact Pre.base _ _ | with_reducible refine Pre.cons _ ?_)) | with_reducible assumption | ((with_reducible refine bsetr ?_); rfl) | with_reducible refine Below.setCell ?_ (by simp <;> omega) _ | with_reducible refine bpl ?_ _ _ | with_reducible refine bal ?_ _ | with_reducible refine bdrew1 ?_ | with_reducible refine bdrew ?_ _))⟩
      · have hs : smallB x y = false := by simp only [smallB, s1, s2, decide_true, decide_false, Bool.and_false]
        go_enter Try.func69, Try.ntmps69
        go_wp2_with (fail)
        refine (sabs_any _ _ (by omega) (by omega)).mono ?_
        rintro e w1 ⟨rfl, rfl⟩
        go_wp2_with (fail)
        refine (scommon_any _ _ _ (by omega) (by omega) (by omega) (by omega)).mono ?_
        rintro e w1 ⟨rfl, rfl⟩
        rw [HG.out]
        go_wp2
        go_region
        go_wp2_with (fail)
        refine (sabs_any _ _ (by omega) (by omega)).mono ?_
        rintro e w1 ⟨rfl, rfl⟩
        go_wp2
        all_goals first | (exfalso; omega) | exact bodyPost_ret (v := .tuple #[.agg #[.int .i64 0, .int .i64 0], .int .i64 3]) (by simp [results, Try.results69, go_sem]) rfl ⟨by simp only [resP, resQ, resC, hs]; rfl, (by (try with_reducible refine bsz ?_); repeat (first | with_reducible exact Below.refl _ _ | ((with_reducible refine bpre ?_); (try simp only [Array.append_assoc]); repeat (first | with_reducible exact Pre.refl _ | with_reducible exact Pre.base _ _ | with_reducible refine Pre.cons _ ?_)) | with_reducible assumption | ((with_reducible refine bsetr ?_); rfl) | with_reducible refine Below.setCell ?_ (by simp <;> omega) _ | with_reducible refine bpl ?_ _ _ | with_reducible refine bal ?_ _ | with_reducible refine bdrew1 ?_ | with_reducible refine bdrew ?_ _))⟩
    · have hs : smallB x y = false := by simp only [smallB, s1, decide_false, Bool.false_and]
      go_enter Try.func69, Try.ntmps69
      go_wp2_with (fail)
      refine (sabs_any _ _ (by omega) (by omega)).mono ?_
      rintro e w1 ⟨rfl, rfl⟩
      go_wp2_with (fail)
      refine (scommon_any _ _ _ (by omega) (by omega) (by omega) (by omega)).mono ?_
      rintro e w1 ⟨rfl, rfl⟩
      rw [HG.out]
      go_wp2
      go_region
      go_wp2_with (fail)
      refine (sabs_any _ _ (by omega) (by omega)).mono ?_
      rintro e w1 ⟨rfl, rfl⟩
      go_wp2
      all_goals first | (exfalso; omega) | exact bodyPost_ret (v := .tuple #[.agg #[.int .i64 0, .int .i64 0], .int .i64 3]) (by simp [results, Try.results69, go_sem]) rfl ⟨by simp only [resP, resQ, resC, hs]; rfl, (by (try with_reducible refine bsz ?_); repeat (first | with_reducible exact Below.refl _ _ | ((with_reducible refine bpre ?_); (try simp only [Array.append_assoc]); repeat (first | with_reducible exact Pre.refl _ | with_reducible exact Pre.base _ _ | with_reducible refine Pre.cons _ ?_)) | with_reducible assumption | ((with_reducible refine bsetr ?_); rfl) | with_reducible refine Below.setCell ?_ (by simp <;> omega) _ | with_reducible refine bpl ?_ _ _ | with_reducible refine bal ?_ _ | with_reducible refine bdrew1 ?_ | with_reducible refine bdrew ?_ _))⟩
  · have e1 : lowP p q = p.tdiv (Int.gcd p q) := if_neg hn
    have e2 : lowQ p q = q.tdiv (Int.gcd p q) := if_neg hn
    rw [e1, e2]
    clear e1 e2
    have HG := Lib.hid hga
    clear hga hgb
    obtain ⟨x, hx⟩ : ∃ x, p.tdiv (Int.gcd p q) = x := ⟨_, rfl⟩
    obtain ⟨y, hy⟩ : ∃ y, q.tdiv (Int.gcd p q) = y := ⟨_, rfl⟩
    obtain ⟨j1, j2⟩ := absI_bd x
    rw [hx, hy]
    by_cases s1 : absI x ≤ 1000000000
    · by_cases s2 : y ≤ 1000000000
      · have hs : smallB x y = true := by simp only [smallB, s1, s2, decide_true, Bool.and_self]
        go_enter Try.func69, Try.ntmps69
        go_wp2_with (fail)
        refine (sabs_any _ _ (by omega) (by omega)).mono ?_
        rintro e w1 ⟨rfl, rfl⟩
        go_wp2_with (fail)
        refine (scommon_any _ _ _ (by omega) (by omega) (by omega) (by omega)).mono ?_
        rintro e w1 ⟨rfl, rfl⟩
        rw [HG.out]
        go_wp2
        go_region
        go_wp2_with (fail)
        refine (sabs_any _ _ (by omega) (by omega)).mono ?_
        rintro e w1 ⟨rfl, rfl⟩
        go_wp2
        all_goals first | (exfalso; omega) | exact bodyPost_ret (v := .tuple #[.agg #[.int .i64 x, .int .i64 y], .int .i64 0]) (by simp [results, Try.results69, go_sem]) rfl ⟨by simp only [resP, resQ, resC, hs]; rfl, (by (try with_reducible refine bsz ?_); repeat (first | with_reducible exact Below.refl _ _ | ((with_reducible refine bpre ?_); (try simp only [Array.append_assoc]); repeat (first | with_reducible exact Pre.refl _ | with_reducible exact Pre.base _ _ | with_reducible refine Pre.cons _ ?_)) | with_reducible assumption | ((with_reducible refine bsetr ?_); rfl) | with_reducible refine Below.setCell ?_ (by simp <;> omega) _ | with_reducible refine bpl ?_ _ _ | with_reducible refine bal ?_ _ | with_reducible refine bdrew1 ?_ | with_reducible refine bdrew ?_ _))⟩
      · have hs : smallB x y = false := by simp only [smallB, s1, s2, decide_true, decide_false, Bool.and_false]
        go_enter Try.func69, Try.ntmps69
        go_wp2_with (fail)
        refine (sabs_any _ _ (by omega) (by omega)).mono ?_
        rintro e w1 ⟨rfl, rfl⟩
        go_wp2_with (fail)
        refine (scommon_any _ _ _ (by omega) (by omega) (by omega) (by omega)).mono ?_
        rintro e w1 ⟨rfl, rfl⟩
        rw [HG.out]
        go_wp2
        go_region
        go_wp2_with (fail)
        refine (sabs_any _ _ (by omega) (by omega)).mono ?_
        rintro e w1 ⟨rfl, rfl⟩
        go_wp2
        all_goals first | (exfalso; omega) | exact bodyPost_ret (v := .tuple #[.agg #[.int .i64 0, .int .i64 0], .int .i64 3]) (by simp [results, Try.results69, go_sem]) rfl ⟨by simp only [resP, resQ, resC, hs]; rfl, (by (try with_reducible refine bsz ?_); repeat (first | with_reducible exact Below.refl _ _ | ((with_reducible refine bpre ?_); (try simp only [Array.append_assoc]); repeat (first | with_reducible exact Pre.refl _ | with_reducible exact Pre.base _ _ | with_reducible refine Pre.cons _ ?_)) | with_reducible assumption | ((with_reducible refine bsetr ?_); rfl) | with_reducible refine Below.setCell ?_ (by simp <;> omega) _ | with_reducible refine bpl ?_ _ _ | with_reducible refine bal ?_ _ | with_reducible refine bdrew1 ?_ | with_reducible refine bdrew ?_ _))⟩
    · have hs : smallB x y = false := by simp only [smallB, s1, decide_false, Bool.false_and]
      go_enter Try.func69, Try.ntmps69
      go_wp2_with (fail)
      refine (sabs_any _ _ (by omega) (by omega)).mono ?_
      rintro e w1 ⟨rfl, rfl⟩
      go_wp2_with (fail)
      refine (scommon_any _ _ _ (by omega) (by omega) (by omega) (by omega)).mono ?_
      rintro e w1 ⟨rfl, rfl⟩
      rw [HG.out]
      go_wp2
      go_region
      go_wp2_with (fail)
      refine (sabs_any _ _ (by omega) (by omega)).mono ?_
      rintro e w1 ⟨rfl, rfl⟩
      go_wp2
      all_goals first | (exfalso; omega) | exact bodyPost_ret (v := .tuple #[.agg #[.int .i64 0, .int .i64 0], .int .i64 3]) (by simp [results, Try.results69, go_sem]) rfl ⟨by simp only [resP, resQ, resC, hs]; rfl, (by (try with_reducible refine bsz ?_); repeat (first | with_reducible exact Below.refl _ _ | ((with_reducible refine bpre ?_); (try simp only [Array.append_assoc]); repeat (first | with_reducible exact Pre.refl _ | with_reducible exact Pre.base _ _ | with_reducible refine Pre.cons _ ?_)) | with_reducible assumption | ((with_reducible refine bsetr ?_); rfl) | with_reducible refine Below.setCell ?_ (by simp <;> omega) _ | with_reducible refine bpl ?_ _ _ | with_reducible refine bal ?_ _ | with_reducible refine bdrew1 ?_ | with_reducible refine bdrew ?_ _))⟩
end Go.Proofs.Ytenaiegidcjanaa

/- The reference's functions for use from outside on fractions. -/
import Derived.Test.YtbpamifkfbcloaaSf
import Derived.Deep.RegionHeld3
namespace Go.Proofs.Ytbpamifkfbcloaa
open Go.RowKit
set_option linter.unusedVariables false
set_option linter.unusedSimpArgs false

theorem sok_any (p q : Int) (w : World) (h : -9223372036854775808 ≤ p) (h2 : p ≤ 9223372036854775807) (h3 : -9223372036854775808 ≤ q) (h4 : q ≤ 9223372036854775807) :
    Calls Try.prog 97 #[.agg #[.int .i64 p, .int .i64 q]] w fun e w' => e = .returned (.bool (frOk p q)) ∧ Below w.heap.size w w' := by
  cases a1 : inB p (-1000000000) 1000000000
  · have hv : frOk p q = false := by
      rw [Bool.eq_false_iff]; intro hc; rw [frOk_iff] at hc; rw [inB_t hc.2.1 hc.2.2.1] at a1; cases a1
    rw [hv]
    go_enter Try.func97, Try.ntmps97
    go_wp2
    go_quiet ((go_at_call 75; exact qsv (u := .bool false) (sin_any _ _ _ _) (by rw [a1])))
    go_wp2
    go_ret
    exact ⟨rfl, (by (try with_reducible refine bsz ?_); repeat (first | with_reducible exact Below.refl _ _ | ((with_reducible refine bpre ?_); (try simp only [Array.append_assoc]); repeat (first | with_reducible exact Pre.refl _ | with_reducible exact Pre.base _ _ | with_reducible refine Pre.cons _ ?_)) | with_reducible assumption | ((with_reducible refine bsetr ?_); rfl) | with_reducible refine Below.setCell ?_ (by simp <;> omega) _ | with_reducible refine bpl ?_ _ _ | with_reducible refine bal ?_ _ | with_reducible refine bdrew1 ?_ | with_reducible refine bdrew ?_ _))⟩
  · cases a2 : inB q 1 1000000000
    · have hv : frOk p q = false := by
        rw [Bool.eq_false_iff]; intro hc; rw [frOk_iff] at hc; rw [inB_t (by omega) hc.2.2.2.1] at a2; cases a2
      rw [hv]
      go_enter Try.func97, Try.ntmps97
      go_wp2
      go_quiet ((go_at_call 75; first | exact qsv (u := .bool true) (sin_any _ _ _ _) (by rw [a1]) | exact qsv (u := .bool false) (sin_any _ _ _ _) (by rw [a2])))
      go_wp2
      go_ret
      exact ⟨rfl, (by (try with_reducible refine bsz ?_); repeat (first | with_reducible exact Below.refl _ _ | ((with_reducible refine bpre ?_); (try simp only [Array.append_assoc]); repeat (first | with_reducible exact Pre.refl _ | with_reducible exact Pre.base _ _ | with_reducible refine Pre.cons _ ?_)) | with_reducible assumption | ((with_reducible refine bsetr ?_); rfl) | with_reducible refine Below.setCell ?_ (by simp <;> omega) _ | with_reducible refine bpl ?_ _ _ | with_reducible refine bal ?_ _ | with_reducible refine bdrew1 ?_ | with_reducible refine bdrew ?_ _))⟩
    · obtain ⟨b1, b2⟩ := inB_iff.1 a1
      obtain ⟨b3, b4⟩ := inB_iff.1 a2
      obtain ⟨i1, i2⟩ := absI_bd p
      have HG := Lib.hid (gcd_absI p q)
      have hv : Hid (frOk p q = ((Int.gcd p q : Int) == 1)) := by
        show frOk p q = _
        rw [Bool.eq_iff_iff, frOk_iff]; simp; omega
      go_enter Try.func97, Try.ntmps97
      go_wp2
      go_quiet (first | (go_at_call 75; first | exact qsv (u := .bool true) (sin_any _ _ _ _) (by rw [a1]) | exact qsv (u := .bool true) (sin_any _ _ _ _) (by rw [a2])) | (go_at_call 121; exact qsv (u := .int .i64 (absI p)) (sabs_any _ _ (by omega) (by omega)) rfl) | (go_at_call 120; exact qsv (u := .int .i64 (Int.gcd p q : Int)) (scommon_any _ _ _ (by omega) (by omega) (by omega) (by omega)) (by rw [HG.out])))
      go_wp2
      go_ret
      exact ⟨ret_bool (by rw [hv.out]), (by (try with_reducible refine bsz ?_); repeat (first | with_reducible exact Below.refl _ _ | ((with_reducible refine bpre ?_); (try simp only [Array.append_assoc]); repeat (first | with_reducible exact Pre.refl _ | with_reducible exact Pre.base _ _ | with_reducible refine Pre.cons _ ?_)) | with_reducible assumption | ((with_reducible refine bsetr ?_); rfl) | with_reducible refine Below.setCell ?_ (by simp <;> omega) _ | with_reducible refine bpl ?_ _ _ | with_reducible refine bal ?_ _ | with_reducible refine bdrew1 ?_ | with_reducible refine bdrew ?_ _))⟩

end Go.Proofs.Ytbpamifkfbcloaa

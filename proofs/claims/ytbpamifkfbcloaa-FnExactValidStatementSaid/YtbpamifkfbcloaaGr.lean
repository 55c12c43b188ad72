/- Graphs are right: impl.ValidGraph, impl.badGraph, impl.spanOk, impl.typeOk, spec.l01Ok, spec.l05Frame, spec.l03Ok. -/
import Derived.Test.YtbpamifkfbcloaaFr2
import Derived.Test.YtbpamifkfbcloaaSf
import Derived.BigGuardPart
import Derived.Deep.RegionHeld3
namespace Go.Proofs.Ytbpamifkfbcloaa
open Go.RowKit
set_option linter.unusedVariables false
set_option linter.unusedSimpArgs false
attribute [local irreducible] Calls
/-- How many pairs so many vertices have; a right graph. -/
def prN (n : Int) : Int := n * (n - 1) / 2
def limN (n : Int) : Int := if n ≤ 1 then 1 else if n = 2 then 2 else if n = 3 then 8 else if n = 4 then 64 else 1024
def grOk (n e : Int) : Bool := inB n 0 5 && decide (e < limN n)
theorem small6 {n : Int} (h : 0 ≤ n ∧ n ≤ 5) : n = 0 ∨ n = 1 ∨ n = 2 ∨ n = 3 ∨ n = 4 ∨ n = 5 := by omega
theorem pairs_any (n : Int) (w : World) (h : 0 ≤ n ∧ n ≤ 5) : Calls Try.prog 99 #[.int .i64 n] w fun e0 w' => e0 = .returned (.int .i64 (prN n)) ∧ w = w' := by
  rcases small6 h with rfl | rfl | rfl | rfl | rfl | rfl
  all_goals
    go_enter Try.func99, Try.ntmps99
    go_wp2
    go_ret
    exact ⟨rfl, rfl⟩
theorem l01Bits_any (n : Int) (w : World) (h : 0 ≤ n ∧ n ≤ 5) : Calls Try.prog 106 #[.int .i64 n] w fun e0 w' => e0 = .returned (.int .i64 (prN n)) ∧ w = w' := by
  rcases small6 h with rfl | rfl | rfl | rfl | rfl | rfl
  all_goals
    go_enter Try.func106, Try.ntmps106
    go_wp2
    go_ret
    exact ⟨rfl, rfl⟩
theorem ValidGraph_any (n e : Int) (w : World) (he : 0 ≤ e ∧ e ≤ 4294967295) : Calls Try.prog 58 #[.agg #[.int .i64 n, .int .u32 e]] w fun e0 w' => e0 = .returned (.bool (grOk n e)) ∧ Below w.heap.size w w' := by
  cases h : inB n 0 5
  · have hr : grOk n e = false := by simp [grOk, h]
    go_enter Try.func58, Try.ntmps58
    go_wp2
    go_quiet ((go_at_call 49; exact qsv (u := .bool false) (in_any _ _ _ _) (by rw [h])))
    go_wp2
    exact bodyPost_ret (v := .bool false) (by simp [results, Try.results58, go_sem]) rfl ⟨by rw [hr], (by (try with_reducible refine bsz ?_); repeat (first | with_reducible exact Below.refl _ _ | ((with_reducible refine bpre ?_); (try simp only [Array.append_assoc]); repeat (first | with_reducible exact Pre.refl _ | with_reducible exact Pre.base _ _ | with_reducible refine Pre.cons _ ?_)) | with_reducible assumption | ((with_reducible refine bsetr ?_); rfl) | with_reducible refine Below.setCell ?_ (by simp <;> omega) _ | with_reducible refine bpl ?_ _ _ | with_reducible refine bal ?_ _ | with_reducible refine bdrew1 ?_ | with_reducible refine bdrew ?_ _))⟩
  · have h2 := inB_iff.1 h
    rcases small6 h2 with rfl | rfl | rfl | rfl | rfl | rfl
    all_goals
      go_enter Try.func58, Try.ntmps58
      go_wp2
      go_quiet (first | (go_at_call 49; exact qsv (u := .bool true) (in_any _ _ _ _) (by rw [h])) | (go_at_call 99; first | exact qsv (u := .int .i64 0) (pairs_any _ _ h2) rfl | exact qsv (u := .int .i64 1) (pairs_any _ _ h2) rfl | exact qsv (u := .int .i64 3) (pairs_any _ _ h2) rfl | exact qsv (u := .int .i64 6) (pairs_any _ _ h2) rfl | exact qsv (u := .int .i64 10) (pairs_any _ _ h2) rfl))
      go_wp2
      go_ret
      exact ⟨ret_bool (by rw [Bool.eq_iff_iff]; simp [grOk, limN, inB] <;> omega), (by (try with_reducible refine bsz ?_); repeat (first | with_reducible exact Below.refl _ _ | ((with_reducible refine bpre ?_); (try simp only [Array.append_assoc]); repeat (first | with_reducible exact Pre.refl _ | with_reducible exact Pre.base _ _ | with_reducible refine Pre.cons _ ?_)) | with_reducible assumption | ((with_reducible refine bsetr ?_); rfl) | with_reducible refine Below.setCell ?_ (by simp <;> omega) _ | with_reducible refine bpl ?_ _ _ | with_reducible refine bal ?_ _ | with_reducible refine bdrew1 ?_ | with_reducible refine bdrew ?_ _))⟩
theorem l01Ok_any (n e : Int) (w : World) (he : 0 ≤ e ∧ e ≤ 4294967295) : Calls Try.prog 74 #[.agg #[.int .i64 n, .int .u32 e]] w fun e0 w' => e0 = .returned (.bool (grOk n e)) ∧ Below w.heap.size w w' := by
  cases h : inB n 0 5
  · have hr : grOk n e = false := by simp [grOk, h]
    go_enter Try.func74, Try.ntmps74
    go_wp2
    go_quiet ((go_at_call 75; exact qsv (u := .bool false) (sin_any _ _ _ _) (by rw [h])))
    go_wp2
    exact bodyPost_ret (v := .bool false) (by simp [results, Try.results74, go_sem]) rfl ⟨by rw [hr], (by (try with_reducible refine bsz ?_); repeat (first | with_reducible exact Below.refl _ _ | ((with_reducible refine bpre ?_); (try simp only [Array.append_assoc]); repeat (first | with_reducible exact Pre.refl _ | with_reducible exact Pre.base _ _ | with_reducible refine Pre.cons _ ?_)) | with_reducible assumption | ((with_reducible refine bsetr ?_); rfl) | with_reducible refine Below.setCell ?_ (by simp <;> omega) _ | with_reducible refine bpl ?_ _ _ | with_reducible refine bal ?_ _ | with_reducible refine bdrew1 ?_ | with_reducible refine bdrew ?_ _))⟩
  · have h2 := inB_iff.1 h
    rcases small6 h2 with rfl | rfl | rfl | rfl | rfl | rfl
    all_goals
      go_enter Try.func74, Try.ntmps74
      go_wp2
      go_quiet (first | (go_at_call 75; exact qsv (u := .bool true) (sin_any _ _ _ _) (by rw [h])) | (go_at_call 106; first | exact qsv (u := .int .i64 0) (l01Bits_any _ _ h2) rfl | exact qsv (u := .int .i64 1) (l01Bits_any _ _ h2) rfl | exact qsv (u := .int .i64 3) (l01Bits_any _ _ h2) rfl | exact qsv (u := .int .i64 6) (l01Bits_any _ _ h2) rfl | exact qsv (u := .int .i64 10) (l01Bits_any _ _ h2) rfl))
      go_wp2
      go_ret
      exact ⟨ret_bool (by rw [Bool.eq_iff_iff]; simp [grOk, limN, inB] <;> omega), (by (try with_reducible refine bsz ?_); repeat (first | with_reducible exact Below.refl _ _ | ((with_reducible refine bpre ?_); (try simp only [Array.append_assoc]); repeat (first | with_reducible exact Pre.refl _ | with_reducible exact Pre.base _ _ | with_reducible refine Pre.cons _ ?_)) | with_reducible assumption | ((with_reducible refine bsetr ?_); rfl) | with_reducible refine Below.setCell ?_ (by simp <;> omega) _ | with_reducible refine bpl ?_ _ _ | with_reducible refine bal ?_ _ | with_reducible refine bdrew1 ?_ | with_reducible refine bdrew ?_ _))⟩
theorem badGraph_any (n e : Int) (w : World) (he : 0 ≤ e ∧ e ≤ 4294967295) : Calls Try.prog 105 #[.agg #[.int .i64 n, .int .u32 e]] w fun e0 w' => e0 = .returned (.bool (!grOk n e)) ∧ Below w.heap.size w w' := by
  go_enter Try.func105, Try.ntmps105
  go_wp2_with (first | (go_at_call 58; refine Calls.mono (ValidGraph_any _ _ _ he) ?_; rintro e w1 ⟨rfl, hb⟩; obtain ⟨X, m, rfl⟩ := plsOf hb; clear hb))
  exact bodyPost_ret (v := .bool (!grOk n e)) (by simp [results, Try.results105, go_sem]) rfl ⟨rfl, (by (try with_reducible refine bsz ?_); repeat (first | with_reducible exact Below.refl _ _ | ((with_reducible refine bpre ?_); (try simp only [Array.append_assoc]); repeat (first | with_reducible exact Pre.refl _ | with_reducible exact Pre.base _ _ | with_reducible refine Pre.cons _ ?_)) | with_reducible assumption | ((with_reducible refine bsetr ?_); rfl) | with_reducible refine Below.setCell ?_ (by simp <;> omega) _ | with_reducible refine bpl ?_ _ _ | with_reducible refine bal ?_ _ | with_reducible refine bdrew1 ?_ | with_reducible refine bdrew ?_ _))⟩
/-- A type and a size of sums. -/
def spOk (n s : Int) : Bool := decide (n ≤ 3) && inB s n 5
theorem spanOk_any (n e s : Int) (w : World) : Calls Try.prog 59 #[.agg #[.int .i64 n, .int .u32 e], .int .i64 s] w fun e0 w' => e0 = .returned (.bool (spOk n s)) ∧ Below w.heap.size w w' := by
  by_cases h : n ≤ 3
  · have hr : spOk n s = inB s n 5 := by simp [spOk, h]
    go_enter Try.func59, Try.ntmps59
    go_wp2_with (first | (go_at_call 49; refine Calls.mono (in_any _ _ _ _) ?_; rintro e w1 ⟨rfl, rfl⟩))
    exact bodyPost_ret (v := .bool (inB s n 5)) (by simp [results, Try.results59, go_sem]) rfl ⟨by rw [hr], (by (try with_reducible refine bsz ?_); repeat (first | with_reducible exact Below.refl _ _ | ((with_reducible refine bpre ?_); (try simp only [Array.append_assoc]); repeat (first | with_reducible exact Pre.refl _ | with_reducible exact Pre.base _ _ | with_reducible refine Pre.cons _ ?_)) | with_reducible assumption | ((with_reducible refine bsetr ?_); rfl) | with_reducible refine Below.setCell ?_ (by simp <;> omega) _ | with_reducible refine bpl ?_ _ _ | with_reducible refine bal ?_ _ | with_reducible refine bdrew1 ?_ | with_reducible refine bdrew ?_ _))⟩
  · have hr : spOk n s = false := by simp [spOk, h]
    go_enter Try.func59, Try.ntmps59
    go_wp2_with (first | (go_at_call 49; refine Calls.mono (in_any _ _ _ _) ?_; rintro e w1 ⟨rfl, rfl⟩))
    exact bodyPost_ret (v := .bool false) (by simp [results, Try.results59, go_sem]) rfl ⟨rfl, (by (try with_reducible refine bsz ?_); repeat (first | with_reducible exact Below.refl _ _ | ((with_reducible refine bpre ?_); (try simp only [Array.append_assoc]); repeat (first | with_reducible exact Pre.refl _ | with_reducible exact Pre.base _ _ | with_reducible refine Pre.cons _ ?_)) | with_reducible assumption | ((with_reducible refine bsetr ?_); rfl) | with_reducible refine Below.setCell ?_ (by simp <;> omega) _ | with_reducible refine bpl ?_ _ _ | with_reducible refine bal ?_ _ | with_reducible refine bdrew1 ?_ | with_reducible refine bdrew ?_ _))⟩
theorem l05Frame_any (n e s : Int) (w : World) : Calls Try.prog 96 #[.agg #[.int .i64 n, .int .u32 e], .int .i64 s] w fun e0 w' => e0 = .returned (.bool (spOk n s)) ∧ Below w.heap.size w w' := by
  by_cases h : n ≤ 3
  · have hr : spOk n s = inB s n 5 := by simp [spOk, h]
    go_enter Try.func96, Try.ntmps96
    go_wp2_with (first | (go_at_call 75; refine Calls.mono (sin_any _ _ _ _) ?_; rintro e w1 ⟨rfl, rfl⟩))
    exact bodyPost_ret (v := .bool (inB s n 5)) (by simp [results, Try.results96, go_sem]) rfl ⟨by rw [hr], (by (try with_reducible refine bsz ?_); repeat (first | with_reducible exact Below.refl _ _ | ((with_reducible refine bpre ?_); (try simp only [Array.append_assoc]); repeat (first | with_reducible exact Pre.refl _ | with_reducible exact Pre.base _ _ | with_reducible refine Pre.cons _ ?_)) | with_reducible assumption | ((with_reducible refine bsetr ?_); rfl) | with_reducible refine Below.setCell ?_ (by simp <;> omega) _ | with_reducible refine bpl ?_ _ _ | with_reducible refine bal ?_ _ | with_reducible refine bdrew1 ?_ | with_reducible refine bdrew ?_ _))⟩
  · have hr : spOk n s = false := by simp [spOk, h]
    go_enter Try.func96, Try.ntmps96
    go_wp2_with (first | (go_at_call 75; refine Calls.mono (sin_any _ _ _ _) ?_; rintro e w1 ⟨rfl, rfl⟩))
    exact bodyPost_ret (v := .bool false) (by simp [results, Try.results96, go_sem]) rfl ⟨rfl, (by (try with_reducible refine bsz ?_); repeat (first | with_reducible exact Below.refl _ _ | ((with_reducible refine bpre ?_); (try simp only [Array.append_assoc]); repeat (first | with_reducible exact Pre.refl _ | with_reducible exact Pre.base _ _ | with_reducible refine Pre.cons _ ?_)) | with_reducible assumption | ((with_reducible refine bsetr ?_); rfl) | with_reducible refine Below.setCell ?_ (by simp <;> omega) _ | with_reducible refine bpl ?_ _ _ | with_reducible refine bal ?_ _ | with_reducible refine bdrew1 ?_ | with_reducible refine bdrew ?_ _))⟩
/-- The code of a type and a size. -/
def tyC (n e s : Int) : Int := if grOk n e then (if spOk n s then 0 else 2) else 1
def zI (c x : Int) : Int := if c = 0 then x else 0
end Go.Proofs.Ytbpamifkfbcloaa

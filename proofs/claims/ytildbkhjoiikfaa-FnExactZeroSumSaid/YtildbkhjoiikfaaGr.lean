/- Graphs are right: impl.ValidGraph, impl.badGraph, impl.spanOk, impl.typeOk, spec.l01Ok, spec.l05Frame, spec.l03Ok. -/
import Derived.Test.YtildbkhjoiikfaaFr2
import Derived.Test.YtildbkhjoiikfaaSf
import Derived.BigGuardPart
import Derived.Deep.RegionHeld3
namespace Go.Proofs.Ytildbkhjoiikfaa
open Go.RowKit
set_option linter.unusedVariables false
set_option linter.unusedSimpArgs false
attribute [local irreducible] Calls
/-- How many pairs so many vertices have; a right graph. -/
def prN (n : Int) : Int := n * (n - 1) / 2
def limN (n : Int) : Int := if n ≤ 1 then 1 else if n = 2 then 2 else if n = 3 then 8 else if n = 4 then 64 else 1024
def grOk (n e : Int) : Bool := inB n 0 5 && decide (e < limN n)
theorem small6 {n : Int} (h : 0 ≤ n ∧ n ≤ 5) : n = 0 ∨ n = 1 ∨ n = 2 ∨ n = 3 ∨ n = 4 ∨ n = 5 := by omega
theorem pairs_any (n : Int) (w : World) (h : 0 ≤ n ∧ n ≤ 5) : Calls Try.prog 170 #[.int .i64 n] w fun e0 w' => e0 = .returned (.int .i64 (prN n)) ∧ w = w' := by
  rcases small6 h with rfl | rfl | rfl | rfl | rfl | rfl
  all_goals
    go_enter Try.func170, Try.ntmps170
    go_wp2
    go_ret
    exact ⟨rfl, rfl⟩
theorem l01Bits_any (n : Int) (w : World) (h : 0 ≤ n ∧ n ≤ 5) : Calls Try.prog 140 #[.int .i64 n] w fun e0 w' => e0 = .returned (.int .i64 (prN n)) ∧ w = w' := by
  rcases small6 h with rfl | rfl | rfl | rfl | rfl | rfl
  all_goals
    go_enter Try.func140, Try.ntmps140
    go_wp2
    go_ret
    exact ⟨rfl, rfl⟩
theorem ValidGraph_any (n e : Int) (w : World) (he : 0 ≤ e ∧ e ≤ 4294967295) : Calls Try.prog 132 #[.agg #[.int .i64 n, .int .u32 e]] w fun e0 w' => e0 = .returned (.bool (grOk n e)) ∧ Below w.heap.size w w' := by
  cases h : inB n 0 5
  · have hr : grOk n e = false := by simp [grOk, h]
    go_enter Try.func132, Try.ntmps132
    go_wp2
    go_quiet ((go_at_call 124; exact qsv (u := .bool false) (in_any _ _ _ _) (by rw [h])))
    go_wp2
    exact bodyPost_ret (v := .bool false) (by simp [results, Try.results132, go_sem]) rfl ⟨by rw [hr], (by (try with_reducible refine bsz ?_); repeat (first | with_reducible exact Below.refl _ _ | ((with_reducible refine bpre ?_); (try simp only [Array.append_assoc]); repeat (first | with_reducible exact Pre.refl _ | with_reducible exact Pre.base _ _ | with_reducible refine Pre.cons _ ?_)) | with_reducible assumption | ((with_reducible refine bsetr ?_); rfl) | with_reducible refine Below.setCell ?_ (by simp <;> omega) _ | with_reducible refine bpl ?_ _ _ | with_reducible refine bal ?_ _ | with_reducible refine bdrew1 ?_ | with_reducible refine bdrew ?_ _))⟩
  · have h2 := inB_iff.1 h
    rcases small6 h2 with rfl | rfl | rfl | rfl | rfl | rfl
    all_goals
      go_enter Try.func132, Try.ntmps132
      go_wp2
      go_quiet (first | (go_at_call 124; exact qsv (u := .bool true) (in_any _ _ _ _) (by rw [h])) | (go_at_call 170; first | exact qsv (u := .int .i64 0) (pairs_any _ _ h2) rfl | exact qsv (u := .int .i64 1) (pairs_any _ _ h2) rfl | exact qsv (u := .int .i64 3) (pairs_any _ _ h2) rfl | exact qsv (u := .int .i64 6) (pairs_any _ _ h2) rfl | exact qsv (u := .int .i64 10) (pairs_any _ _ h2) rfl))
      go_wp2
      go_ret
      exact ⟨ret_bool (by rw [Bool.eq_iff_iff]; simp [grOk, limN, inB] <;> omega), (by (try with_reducible refine bsz ?_); repeat (first | with_reducible exact Below.refl _ _ | ((with_reducible refine bpre ?_); (try simp only [Array.append_assoc]); repeat (first | with_reducible exact Pre.refl _ | with_reducible exact Pre.base _ _ | with_reducible refine Pre.cons _ ?_)) | with_reducible assumption | ((with_reducible refine bsetr ?_); rfl) | with_reducible refine Below.setCell ?_ (by simp <;> omega) _ | with_reducible refine bpl ?_ _ _ | with_reducible refine bal ?_ _ | with_reducible refine bdrew1 ?_ | with_reducible refine bdrew ?_ _))⟩
theorem l01Ok_any (n e : Int) (w : World) (he : 0 ≤ e ∧ e ≤ 4294967295) : Calls Try.prog 66 #[.agg #[.int .i64 n, .int .u32 e]] w fun e0 w' => e0 = .returned (.bool (grOk n e)) ∧ Below w.heap.size w w' := by
  cases h : inB n 0 5
  · have hr : grOk n e = false := by simp [grOk, h]
    go_enter Try.func66, Try.ntmps66
    go_wp2
    go_quiet ((go_at_call 139; exact qsv (u := .bool false) (sin_any _ _ _ _) (by rw [h])))
    go_wp2
    exact bodyPost_ret (v := .bool false) (by simp [results, Try.results66, go_sem]) rfl ⟨by rw [hr], (by (try with_reducible refine bsz ?_); repeat (first | with_reducible exact Below.refl _ _ | ((with_reducible refine bpre ?_); (try simp only [Array.append_assoc]); repeat (first | with_reducible exact Pre.refl _ | with_reducible exact Pre.base _ _ | with_reducible refine Pre.cons _ ?_)) | with_reducible assumption | ((with_reducible refine bsetr ?_); rfl) | with_reducible refine Below.setCell ?_ (by simp <;> omega) _ | with_reducible refine bpl ?_ _ _ | with_reducible refine bal ?_ _ | with_reducible refine bdrew1 ?_ | with_reducible refine bdrew ?_ _))⟩
  · have h2 := inB_iff.1 h
    rcases small6 h2 with rfl | rfl | rfl | rfl | rfl | rfl
    all_goals
      go_enter Try.func66, Try.ntmps66
      go_wp2
      go_quiet (first | (go_at_call 139; exact qsv (u := .bool true) (sin_any _ _ _ _) (by rw [h])) | (go_at_call 140; first | exact qsv (u := .int .i64 0) (l01Bits_any _ _ h2) rfl | exact qsv (u := .int .i64 1) (l01Bits_any _ _ h2) rfl | exact qsv (u := .int .i64 3) (l01Bits_any _ _ h2) rfl | exact qsv (u := .int .i64 6) (l01Bits_any _ _ h2) rfl | exact qsv (u := .int .i64 10) (l01Bits_any _ _ h2) rfl))
      go_wp2
      go_ret
      exact ⟨ret_bool (by rw [Bool.eq_iff_iff]; simp [grOk, limN, inB] <;> omega), (by (try with_reducible refine bsz ?_); repeat (first | with_reducible exact Below.refl _ _ | ((with_reducible refine bpre ?_); (try simp only [Array.append_assoc]); repeat (first | with_reducible exact Pre.refl _ | with_reducible exact Pre.base _ _ | with_reducible refine Pre.cons _ ?_)) | with_reducible assumption | ((with_reducible refine bsetr ?_); rfl) | with_reducible refine Below.setCell ?_ (by simp <;> omega) _ | with_reducible refine bpl ?_ _ _ | with_reducible refine bal ?_ _ | with_reducible refine bdrew1 ?_ | with_reducible refine bdrew ?_ _))⟩
theorem badGraph_any (n e : Int) (w : World) (he : 0 ≤ e ∧ e ≤ 4294967295) : Calls Try.prog 141 #[.agg #[.int .i64 n, .int .u32 e]] w fun e0 w' => e0 = .returned (.bool (!grOk n e)) ∧ Below w.heap.size w w' := by
  go_enter Try.func141, Try.ntmps141
  go_wp2_with (first | (go_at_call 132; refine Calls.mono (ValidGraph_any _ _ _ he) ?_; rintro e w1 ⟨rfl, hb⟩; obtain ⟨X, m, rfl⟩ := plsOf hb; clear hb))
  exact bodyPost_ret (v := .bool (!grOk n e)) (by simp [results, Try.results141, go_sem]) rfl ⟨rfl, (by (try with_reducible refine bsz ?_); repeat (first | with_reducible exact Below.refl _ _ | ((with_reducible refine bpre ?_); (try simp only [Array.append_assoc]); repeat (first | with_reducible exact Pre.refl _ | with_reducible exact Pre.base _ _ | with_reducible refine Pre.cons _ ?_)) | with_reducible assumption | ((with_reducible refine bsetr ?_); rfl) | with_reducible refine Below.setCell ?_ (by simp <;> omega) _ | with_reducible refine bpl ?_ _ _ | with_reducible refine bal ?_ _ | with_reducible refine bdrew1 ?_ | with_reducible refine bdrew ?_ _))⟩
/-- A type and a size of sums. -/
def spOk (n s : Int) : Bool := decide (n ≤ 3) && inB s n 5
theorem spanOk_any (n e s : Int) (w : World) : Calls Try.prog 133 #[.agg #[.int .i64 n, .int .u32 e], .int .i64 s] w fun e0 w' => e0 = .returned (.bool (spOk n s)) ∧ Below w.heap.size w w' := by
  by_cases h : n ≤ 3
  · have hr : spOk n s = inB s n 5 := by simp [spOk, h]
    go_enter Try.func133, Try.ntmps133
    go_wp2_with (first | (go_at_call 124; refine Calls.mono (in_any _ _ _ _) ?_; rintro e w1 ⟨rfl, rfl⟩))
    exact bodyPost_ret (v := .bool (inB s n 5)) (by simp [results, Try.results133, go_sem]) rfl ⟨by rw [hr], (by (try with_reducible refine bsz ?_); repeat (first | with_reducible exact Below.refl _ _ | ((with_reducible refine bpre ?_); (try simp only [Array.append_assoc]); repeat (first | with_reducible exact Pre.refl _ | with_reducible exact Pre.base _ _ | with_reducible refine Pre.cons _ ?_)) | with_reducible assumption | ((with_reducible refine bsetr ?_); rfl) | with_reducible refine Below.setCell ?_ (by simp <;> omega) _ | with_reducible refine bpl ?_ _ _ | with_reducible refine bal ?_ _ | with_reducible refine bdrew1 ?_ | with_reducible refine bdrew ?_ _))⟩
  · have hr : spOk n s = false := by simp [spOk, h]
    go_enter Try.func133, Try.ntmps133
    go_wp2_with (first | (go_at_call 124; refine Calls.mono (in_any _ _ _ _) ?_; rintro e w1 ⟨rfl, rfl⟩))
    exact bodyPost_ret (v := .bool false) (by simp [results, Try.results133, go_sem]) rfl ⟨rfl, (by (try with_reducible refine bsz ?_); repeat (first | with_reducible exact Below.refl _ _ | ((with_reducible refine bpre ?_); (try simp only [Array.append_assoc]); repeat (first | with_reducible exact Pre.refl _ | with_reducible exact Pre.base _ _ | with_reducible refine Pre.cons _ ?_)) | with_reducible assumption | ((with_reducible refine bsetr ?_); rfl) | with_reducible refine Below.setCell ?_ (by simp <;> omega) _ | with_reducible refine bpl ?_ _ _ | with_reducible refine bal ?_ _ | with_reducible refine bdrew1 ?_ | with_reducible refine bdrew ?_ _))⟩
theorem l05Frame_any (n e s : Int) (w : World) : Calls Try.prog 67 #[.agg #[.int .i64 n, .int .u32 e], .int .i64 s] w fun e0 w' => e0 = .returned (.bool (spOk n s)) ∧ Below w.heap.size w w' := by
  by_cases h : n ≤ 3
  · have hr : spOk n s = inB s n 5 := by simp [spOk, h]
    go_enter Try.func67, Try.ntmps67
    go_wp2_with (first | (go_at_call 139; refine Calls.mono (sin_any _ _ _ _) ?_; rintro e w1 ⟨rfl, rfl⟩))
    exact bodyPost_ret (v := .bool (inB s n 5)) (by simp [results, Try.results67, go_sem]) rfl ⟨by rw [hr], (by (try with_reducible refine bsz ?_); repeat (first | with_reducible exact Below.refl _ _ | ((with_reducible refine bpre ?_); (try simp only [Array.append_assoc]); repeat (first | with_reducible exact Pre.refl _ | with_reducible exact Pre.base _ _ | with_reducible refine Pre.cons _ ?_)) | with_reducible assumption | ((with_reducible refine bsetr ?_); rfl) | with_reducible refine Below.setCell ?_ (by simp <;> omega) _ | with_reducible refine bpl ?_ _ _ | with_reducible refine bal ?_ _ | with_reducible refine bdrew1 ?_ | with_reducible refine bdrew ?_ _))⟩
  · have hr : spOk n s = false := by simp [spOk, h]
    go_enter Try.func67, Try.ntmps67
    go_wp2_with (first | (go_at_call 139; refine Calls.mono (sin_any _ _ _ _) ?_; rintro e w1 ⟨rfl, rfl⟩))
    exact bodyPost_ret (v := .bool false) (by simp [results, Try.results67, go_sem]) rfl ⟨rfl, (by (try with_reducible refine bsz ?_); repeat (first | with_reducible exact Below.refl _ _ | ((with_reducible refine bpre ?_); (try simp only [Array.append_assoc]); repeat (first | with_reducible exact Pre.refl _ | with_reducible exact Pre.base _ _ | with_reducible refine Pre.cons _ ?_)) | with_reducible assumption | ((with_reducible refine bsetr ?_); rfl) | with_reducible refine Below.setCell ?_ (by simp <;> omega) _ | with_reducible refine bpl ?_ _ _ | with_reducible refine bal ?_ _ | with_reducible refine bdrew1 ?_ | with_reducible refine bdrew ?_ _))⟩
/-- The code of a type and a size. -/
def tyC (n e s : Int) : Int := if grOk n e then (if spOk n s then 0 else 2) else 1
theorem typeOk_any (n e s : Int) (w : World) (he : 0 ≤ e ∧ e ≤ 4294967295) : Calls Try.prog 68 #[.agg #[.int .i64 n, .int .u32 e], .int .i64 s] w fun e0 w' => e0 = .returned (.int .i64 (tyC n e s)) ∧ Below w.heap.size w w' := by
  cases h1 : grOk n e
  · have hr : tyC n e s = 1 := by simp [tyC, h1]
    go_enter Try.func68, Try.ntmps68
    go_wp2_with (first | (go_at_call 141; refine Calls.mono (badGraph_any _ _ _ he) ?_; rintro e w1 ⟨rfl, hb⟩; obtain ⟨X, m, rfl⟩ := plsOf hb; clear hb))
    exact bodyPost_ret (v := .int .i64 1) (by simp [results, Try.results68, go_sem]) rfl ⟨by rw [hr], (by (try with_reducible refine bsz ?_); repeat (first | with_reducible exact Below.refl _ _ | ((with_reducible refine bpre ?_); (try simp only [Array.append_assoc]); repeat (first | with_reducible exact Pre.refl _ | with_reducible exact Pre.base _ _ | with_reducible refine Pre.cons _ ?_)) | with_reducible assumption | ((with_reducible refine bsetr ?_); rfl) | with_reducible refine Below.setCell ?_ (by simp <;> omega) _ | with_reducible refine bpl ?_ _ _ | with_reducible refine bal ?_ _ | with_reducible refine bdrew1 ?_ | with_reducible refine bdrew ?_ _))⟩
  · cases h2 : spOk n s
    · have hr : tyC n e s = 2 := by simp [tyC, h1, h2]
      go_enter Try.func68, Try.ntmps68
      go_wp2_with (first | (go_at_call 141; refine Calls.mono (badGraph_any _ _ _ he) ?_; rintro e w1 ⟨rfl, hb⟩; obtain ⟨X, m, rfl⟩ := plsOf hb; clear hb) | (go_at_call 133; refine Calls.mono (spanOk_any n e s _) ?_; rintro e w1 ⟨rfl, hb⟩; obtain ⟨X, m, rfl⟩ := plsOf hb; clear hb))
      exact bodyPost_ret (v := .int .i64 2) (by simp [results, Try.results68, go_sem]) rfl ⟨by rw [hr], (by (try with_reducible refine bsz ?_); repeat (first | with_reducible exact Below.refl _ _ | ((with_reducible refine bpre ?_); (try simp only [Array.append_assoc]); repeat (first | with_reducible exact Pre.refl _ | with_reducible exact Pre.base _ _ | with_reducible refine Pre.cons _ ?_)) | with_reducible assumption | ((with_reducible refine bsetr ?_); rfl) | with_reducible refine Below.setCell ?_ (by simp <;> omega) _ | with_reducible refine bpl ?_ _ _ | with_reducible refine bal ?_ _ | with_reducible refine bdrew1 ?_ | with_reducible refine bdrew ?_ _))⟩
    · have hr : tyC n e s = 0 := by simp [tyC, h1, h2]
      go_enter Try.func68, Try.ntmps68
      go_wp2_with (first | (go_at_call 141; refine Calls.mono (badGraph_any _ _ _ he) ?_; rintro e w1 ⟨rfl, hb⟩; obtain ⟨X, m, rfl⟩ := plsOf hb; clear hb) | (go_at_call 133; refine Calls.mono (spanOk_any n e s _) ?_; rintro e w1 ⟨rfl, hb⟩; obtain ⟨X, m, rfl⟩ := plsOf hb; clear hb))
      exact bodyPost_ret (v := .int .i64 0) (by simp [results, Try.results68, go_sem]) rfl ⟨by rw [hr], (by (try with_reducible refine bsz ?_); repeat (first | with_reducible exact Below.refl _ _ | ((with_reducible refine bpre ?_); (try simp only [Array.append_assoc]); repeat (first | with_reducible exact Pre.refl _ | with_reducible exact Pre.base _ _ | with_reducible refine Pre.cons _ ?_)) | with_reducible assumption | ((with_reducible refine bsetr ?_); rfl) | with_reducible refine Below.setCell ?_ (by simp <;> omega) _ | with_reducible refine bpl ?_ _ _ | with_reducible refine bal ?_ _ | with_reducible refine bdrew1 ?_ | with_reducible refine bdrew ?_ _))⟩
def zI (c x : Int) : Int := if c = 0 then x else 0
theorem ZeroSum_any (n e s : Int) (w : World) (he : 0 ≤ e ∧ e ≤ 4294967295) : Calls Try.prog 17 #[.agg #[.int .i64 n, .int .u32 e], .int .i64 s] w fun e0 w' => e0 = .returned (.tuple #[.agg #[.int .i64 (zI (tyC n e s) n), .int .u32 (zI (tyC n e s) e), .int .i64 (zI (tyC n e s) s), .slice none 0 0], .int .i64 (tyC n e s)]) ∧ Below w.heap.size w w' := by
  cases h1 : (tyC n e s != 0)
  · have hr : tyC n e s = 0 := by simpa using h1
    rw [hr]
    go_enter Try.func17, Try.ntmps17
    go_wp2_with fail
    refine Calls.mono (typeOk_any _ _ _ _ he) ?_
    rw [hr]
    rintro e0 w1 ⟨rfl, hb⟩; obtain ⟨X0, m0, rfl⟩ := plsOf hb; clear hb
    go_wp2_with fail
    exact bodyPost_ret (v := .tuple #[.agg #[.int .i64 n, .int .u32 e, .int .i64 s, .slice none 0 0], .int .i64 0]) (by simp [results, Try.results17, go_sem]) rfl ⟨rfl, (by (try with_reducible refine bsz ?_); repeat (first | with_reducible exact Below.refl _ _ | ((with_reducible refine bpre ?_); (try simp only [Array.append_assoc]); repeat (first | with_reducible exact Pre.refl _ | with_reducible exact Pre.base _ _ | with_reducible refine Pre.cons _ ?_)) | with_reducible assumption | ((with_reducible refine bsetr ?_); rfl) | with_reducible refine Below.setCell ?_ (by simp <;> omega) _ | with_reducible refine bpl ?_ _ _ | with_reducible refine bal ?_ _ | with_reducible refine bdrew1 ?_ | with_reducible refine bdrew ?_ _))⟩
  · have hr : tyC n e s ≠ 0 := by simpa using h1
    have z : ∀ x, zI (tyC n e s) x = 0 := fun x => if_neg hr
    simp only [z]
    go_enter Try.func17, Try.ntmps17
    go_wp2_with (first | (go_at_call 68; refine Calls.mono (typeOk_any _ _ _ _ he) ?_; rintro e w1 ⟨rfl, hb⟩; obtain ⟨X, m, rfl⟩ := plsOf hb; clear hb))
    exact bodyPost_ret (v := .tuple #[.agg #[.int .i64 0, .int .u32 0, .int .i64 0, .slice none 0 0], .int .i64 (tyC n e s)]) (by simp [results, Try.results17, go_sem]) rfl ⟨rfl, (by (try with_reducible refine bsz ?_); repeat (first | with_reducible exact Below.refl _ _ | ((with_reducible refine bpre ?_); (try simp only [Array.append_assoc]); repeat (first | with_reducible exact Pre.refl _ | with_reducible exact Pre.base _ _ | with_reducible refine Pre.cons _ ?_)) | with_reducible assumption | ((with_reducible refine bsetr ?_); rfl) | with_reducible refine Below.setCell ?_ (by simp <;> omega) _ | with_reducible refine bpl ?_ _ _ | with_reducible refine bal ?_ _ | with_reducible refine bdrew1 ?_ | with_reducible refine bdrew ?_ _))⟩
theorem sZeroSum_any (n e s : Int) (w : World) (he : 0 ≤ e ∧ e ≤ 4294967295) : Calls Try.prog 15 #[.agg #[.int .i64 n, .int .u32 e], .int .i64 s] w fun e0 w' => e0 = .returned (.tuple #[.agg #[.int .i64 (zI (tyC n e s) n), .int .u32 (zI (tyC n e s) e), .int .i64 (zI (tyC n e s) s), .slice none 0 0], .int .i64 (tyC n e s)]) ∧ Below w.heap.size w w' := by
  cases h1 : grOk n e
  · have hr : tyC n e s = 1 := by simp [tyC, h1]
    rw [hr]
    go_enter Try.func15, Try.ntmps15
    go_wp2_with (first | (go_at_call 66; refine Calls.mono (l01Ok_any _ _ _ he) ?_; rintro e w1 ⟨rfl, hb⟩; obtain ⟨X, m, rfl⟩ := plsOf hb; clear hb))
    exact bodyPost_ret (v := .tuple #[.agg #[.int .i64 0, .int .u32 0, .int .i64 0, .slice none 0 0], .int .i64 1]) (by simp [results, Try.results15, go_sem]) rfl ⟨rfl, (by (try with_reducible refine bsz ?_); repeat (first | with_reducible exact Below.refl _ _ | ((with_reducible refine bpre ?_); (try simp only [Array.append_assoc]); repeat (first | with_reducible exact Pre.refl _ | with_reducible exact Pre.base _ _ | with_reducible refine Pre.cons _ ?_)) | with_reducible assumption | ((with_reducible refine bsetr ?_); rfl) | with_reducible refine Below.setCell ?_ (by simp <;> omega) _ | with_reducible refine bpl ?_ _ _ | with_reducible refine bal ?_ _ | with_reducible refine bdrew1 ?_ | with_reducible refine bdrew ?_ _))⟩
  · cases h2 : spOk n s
    · have hr : tyC n e s = 2 := by simp [tyC, h1, h2]
      rw [hr]
      go_enter Try.func15, Try.ntmps15
      go_wp2_with (first | (go_at_call 66; refine Calls.mono (l01Ok_any _ _ _ he) ?_; rintro e w1 ⟨rfl, hb⟩; obtain ⟨X, m, rfl⟩ := plsOf hb; clear hb) | (go_at_call 67; refine Calls.mono (l05Frame_any n e s _) ?_; rintro e w1 ⟨rfl, hb⟩; obtain ⟨X, m, rfl⟩ := plsOf hb; clear hb))
      exact bodyPost_ret (v := .tuple #[.agg #[.int .i64 0, .int .u32 0, .int .i64 0, .slice none 0 0], .int .i64 2]) (by simp [results, Try.results15, go_sem]) rfl ⟨rfl, (by (try with_reducible refine bsz ?_); repeat (first | with_reducible exact Below.refl _ _ | ((with_reducible refine bpre ?_); (try simp only [Array.append_assoc]); repeat (first | with_reducible exact Pre.refl _ | with_reducible exact Pre.base _ _ | with_reducible refine Pre.cons _ ?_)) | with_reducible assumption | ((with_reducible refine bsetr ?_); rfl) | with_reducible refine Below.setCell ?_ (by simp <;> omega) _ | with_reducible refine bpl ?_ _ _ | with_reducible refine bal ?_ _ | with_reducible refine bdrew1 ?_ | with_reducible refine bdrew ?_ _))⟩
    · have hr : tyC n e s = 0 := by simp [tyC, h1, h2]
      rw [hr]
      go_enter Try.func15, Try.ntmps15
      go_wp2_with (first | (go_at_call 66; refine Calls.mono (l01Ok_any _ _ _ he) ?_; rintro e w1 ⟨rfl, hb⟩; obtain ⟨X, m, rfl⟩ := plsOf hb; clear hb) | (go_at_call 67; refine Calls.mono (l05Frame_any n e s _) ?_; rintro e w1 ⟨rfl, hb⟩; obtain ⟨X, m, rfl⟩ := plsOf hb; clear hb))
      exact bodyPost_ret (v := .tuple #[.agg #[.int .i64 n, .int .u32 e, .int .i64 s, .slice none 0 0], .int .i64 0]) (by simp [results, Try.results15, go_sem]) rfl ⟨rfl, (by (try with_reducible refine bsz ?_); repeat (first | with_reducible exact Below.refl _ _ | ((with_reducible refine bpre ?_); (try simp only [Array.append_assoc]); repeat (first | with_reducible exact Pre.refl _ | with_reducible exact Pre.base _ _ | with_reducible refine Pre.cons _ ?_)) | with_reducible assumption | ((with_reducible refine bsetr ?_); rfl) | with_reducible refine Below.setCell ?_ (by simp <;> omega) _ | with_reducible refine bpl ?_ _ _ | with_reducible refine bal ?_ _ | with_reducible refine bdrew1 ?_ | with_reducible refine bdrew ?_ _))⟩
end Go.Proofs.Ytildbkhjoiikfaa

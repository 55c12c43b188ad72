/- Flags: impl.ValidFlag, impl.badFlag, spec.l03Ok. -/
import Derived.Test.YtbpamifkfbcloaaGp
namespace Go.Proofs.Ytbpamifkfbcloaa
open Go.ChangeShapes Go.WideShapes Go.RowKit
set_option linter.unusedVariables false
set_option linter.unusedSimpArgs false
attribute [local irreducible] Calls
/-- A valid flag. -/
def flOk (k n e : Int) : Bool := grOk n e && inB k 0 3 && decide (k ≤ n)
theorem ValidFlag_any (k n e : Int) (w : World) (he : 0 ≤ e ∧ e ≤ 4294967295) : Calls Try.prog 60 #[.agg #[.int .i64 k, .int .i64 n, .int .u32 e]] w fun e0 w' => e0 = .returned (.bool (flOk k n e)) ∧ Below w.heap.size w w' := by
  cases h1 : grOk n e
  · have hr : Hid (flOk k n e = false) := Lib.hid (by simp [flOk, h1])
    have H1 := Lib.hid h1
    clear h1
    go_enter Try.func60, Try.ntmps60
    go_wp2_with (first | (go_at_call 58; refine Calls.mono ((H1.out ▸ ValidGraph_any n e _ he)) ?_; rintro e w1 ⟨rfl, hb⟩; obtain ⟨X, m, rfl⟩ := plsOf hb; clear hb))
    exact bodyPost_ret (v := .bool false) (by simp [results, Try.results60, go_sem]) rfl ⟨by rw [hr.out], (by (try with_reducible refine bsz ?_); repeat (first | with_reducible exact Below.refl _ _ | ((with_reducible refine bpre ?_); (try simp only [Array.append_assoc]); repeat (first | with_reducible exact Pre.refl _ | with_reducible exact Pre.base _ _ | with_reducible refine Pre.cons _ ?_)) | with_reducible assumption | ((with_reducible refine bsetr ?_); rfl) | with_reducible refine Below.setCell ?_ (by simp <;> omega) _ | with_reducible refine bpl ?_ _ _ | with_reducible refine bal ?_ _ | with_reducible refine bdrew1 ?_ | with_reducible refine bdrew ?_ _))⟩
  · cases h2 : inB k 0 3
    · have hr : Hid (flOk k n e = false) := Lib.hid (by simp [flOk, h1, h2])
      have H1 := Lib.hid h1
      have H2 := Lib.hid h2
      clear h1 h2
      go_enter Try.func60, Try.ntmps60
      go_wp2_with (first | (go_at_call 58; refine Calls.mono ((H1.out ▸ ValidGraph_any n e _ he)) ?_; rintro e w1 ⟨rfl, hb⟩; obtain ⟨X, m, rfl⟩ := plsOf hb; clear hb) | (go_at_call 49; refine Calls.mono ((H2.out ▸ in_any k 0 3 _)) ?_; rintro e w1 ⟨rfl, rfl⟩))
      exact bodyPost_ret (v := .bool false) (by simp [results, Try.results60, go_sem]) rfl ⟨by rw [hr.out], (by (try with_reducible refine bsz ?_); repeat (first | with_reducible exact Below.refl _ _ | ((with_reducible refine bpre ?_); (try simp only [Array.append_assoc]); repeat (first | with_reducible exact Pre.refl _ | with_reducible exact Pre.base _ _ | with_reducible refine Pre.cons _ ?_)) | with_reducible assumption | ((with_reducible refine bsetr ?_); rfl) | with_reducible refine Below.setCell ?_ (by simp <;> omega) _ | with_reducible refine bpl ?_ _ _ | with_reducible refine bal ?_ _ | with_reducible refine bdrew1 ?_ | with_reducible refine bdrew ?_ _))⟩
    · have hr : Hid (flOk k n e = decide (k ≤ n)) := Lib.hid (by simp [flOk, h1, h2])
      have H1 := Lib.hid h1
      have H2 := Lib.hid h2
      clear h1 h2
      go_enter Try.func60, Try.ntmps60
      go_wp2_with (first | (go_at_call 58; refine Calls.mono ((H1.out ▸ ValidGraph_any n e _ he)) ?_; rintro e w1 ⟨rfl, hb⟩; obtain ⟨X, m, rfl⟩ := plsOf hb; clear hb) | (go_at_call 49; refine Calls.mono ((H2.out ▸ in_any k 0 3 _)) ?_; rintro e w1 ⟨rfl, rfl⟩))
      exact bodyPost_ret (v := .bool (decide (k ≤ n))) (by simp [results, Try.results60, go_sem]) rfl ⟨by rw [hr.out], (by (try with_reducible refine bsz ?_); repeat (first | with_reducible exact Below.refl _ _ | ((with_reducible refine bpre ?_); (try simp only [Array.append_assoc]); repeat (first | with_reducible exact Pre.refl _ | with_reducible exact Pre.base _ _ | with_reducible refine Pre.cons _ ?_)) | with_reducible assumption | ((with_reducible refine bsetr ?_); rfl) | with_reducible refine Below.setCell ?_ (by simp <;> omega) _ | with_reducible refine bpl ?_ _ _ | with_reducible refine bal ?_ _ | with_reducible refine bdrew1 ?_ | with_reducible refine bdrew ?_ _))⟩
theorem l03Ok_any (k n e : Int) (w : World) (he : 0 ≤ e ∧ e ≤ 4294967295) : Calls Try.prog 31 #[.agg #[.int .i64 k, .int .i64 n, .int .u32 e]] w fun e0 w' => e0 = .returned (.bool (flOk k n e)) ∧ Below w.heap.size w w' := by
  cases h1 : grOk n e
  · have hr : Hid (flOk k n e = false) := Lib.hid (by simp [flOk, h1])
    have H1 := Lib.hid h1
    clear h1
    go_enter Try.func31, Try.ntmps31
    go_wp2_with (first | (go_at_call 74; refine Calls.mono ((H1.out ▸ l01Ok_any n e _ he)) ?_; rintro e w1 ⟨rfl, hb⟩; obtain ⟨X, m, rfl⟩ := plsOf hb; clear hb))
    exact bodyPost_ret (v := .bool false) (by simp [results, Try.results31, go_sem]) rfl ⟨by rw [hr.out], (by (try with_reducible refine bsz ?_); repeat (first | with_reducible exact Below.refl _ _ | ((with_reducible refine bpre ?_); (try simp only [Array.append_assoc]); repeat (first | with_reducible exact Pre.refl _ | with_reducible exact Pre.base _ _ | with_reducible refine Pre.cons _ ?_)) | with_reducible assumption | ((with_reducible refine bsetr ?_); rfl) | with_reducible refine Below.setCell ?_ (by simp <;> omega) _ | with_reducible refine bpl ?_ _ _ | with_reducible refine bal ?_ _ | with_reducible refine bdrew1 ?_ | with_reducible refine bdrew ?_ _))⟩
  · cases h2 : inB k 0 3
    · have hr : Hid (flOk k n e = false) := Lib.hid (by simp [flOk, h1, h2])
      have H1 := Lib.hid h1
      have H2 := Lib.hid h2
      clear h1 h2
      go_enter Try.func31, Try.ntmps31
      go_wp2_with (first | (go_at_call 74; refine Calls.mono ((H1.out ▸ l01Ok_any n e _ he)) ?_; rintro e w1 ⟨rfl, hb⟩; obtain ⟨X, m, rfl⟩ := plsOf hb; clear hb) | (go_at_call 75; refine Calls.mono ((H2.out ▸ sin_any k 0 3 _)) ?_; rintro e w1 ⟨rfl, rfl⟩))
      exact bodyPost_ret (v := .bool false) (by simp [results, Try.results31, go_sem]) rfl ⟨by rw [hr.out], (by (try with_reducible refine bsz ?_); repeat (first | with_reducible exact Below.refl _ _ | ((with_reducible refine bpre ?_); (try simp only [Array.append_assoc]); repeat (first | with_reducible exact Pre.refl _ | with_reducible exact Pre.base _ _ | with_reducible refine Pre.cons _ ?_)) | with_reducible assumption | ((with_reducible refine bsetr ?_); rfl) | with_reducible refine Below.setCell ?_ (by simp <;> omega) _ | with_reducible refine bpl ?_ _ _ | with_reducible refine bal ?_ _ | with_reducible refine bdrew1 ?_ | with_reducible refine bdrew ?_ _))⟩
    · have hr : Hid (flOk k n e = decide (k ≤ n)) := Lib.hid (by simp [flOk, h1, h2])
      have H1 := Lib.hid h1
      have H2 := Lib.hid h2
      clear h1 h2
      go_enter Try.func31, Try.ntmps31
      go_wp2_with (first | (go_at_call 74; refine Calls.mono ((H1.out ▸ l01Ok_any n e _ he)) ?_; rintro e w1 ⟨rfl, hb⟩; obtain ⟨X, m, rfl⟩ := plsOf hb; clear hb) | (go_at_call 75; refine Calls.mono ((H2.out ▸ sin_any k 0 3 _)) ?_; rintro e w1 ⟨rfl, rfl⟩))
      exact bodyPost_ret (v := .bool (decide (k ≤ n))) (by simp [results, Try.results31, go_sem]) rfl ⟨by rw [hr.out], (by (try with_reducible refine bsz ?_); repeat (first | with_reducible exact Below.refl _ _ | ((with_reducible refine bpre ?_); (try simp only [Array.append_assoc]); repeat (first | with_reducible exact Pre.refl _ | with_reducible exact Pre.base _ _ | with_reducible refine Pre.cons _ ?_)) | with_reducible assumption | ((with_reducible refine bsetr ?_); rfl) | with_reducible refine Below.setCell ?_ (by simp <;> omega) _ | with_reducible refine bpl ?_ _ _ | with_reducible refine bal ?_ _ | with_reducible refine bdrew1 ?_ | with_reducible refine bdrew ?_ _))⟩
theorem badFlag_any (k n e : Int) (w : World) (he : 0 ≤ e ∧ e ≤ 4294967295) : Calls Try.prog 36 #[.agg #[.int .i64 k, .int .i64 n, .int .u32 e]] w fun e0 w' => e0 = .returned (.bool (!flOk k n e)) ∧ Below w.heap.size w w' := by
  go_enter Try.func36, Try.ntmps36
  go_wp2_with (first | (go_at_call 60; refine Calls.mono (ValidFlag_any _ _ _ _ he) ?_; rintro e w1 ⟨rfl, hb⟩; obtain ⟨X, m, rfl⟩ := plsOf hb; clear hb))
  exact bodyPost_ret (v := .bool (!flOk k n e)) (by simp [results, Try.results36, go_sem]) rfl ⟨rfl, (by (try with_reducible refine bsz ?_); repeat (first | with_reducible exact Below.refl _ _ | ((with_reducible refine bpre ?_); (try simp only [Array.append_assoc]); repeat (first | with_reducible exact Pre.refl _ | with_reducible exact Pre.base _ _ | with_reducible refine Pre.cons _ ?_)) | with_reducible assumption | ((with_reducible refine bsetr ?_); rfl) | with_reducible refine Below.setCell ?_ (by simp <;> omega) _ | with_reducible refine bpl ?_ _ _ | with_reducible refine bal ?_ _ | with_reducible refine bdrew1 ?_ | with_reducible refine bdrew ?_ _))⟩
theorem flOk_iff (k n e : Int) : flOk k n e = true ↔ grOk n e = true ∧ (0 ≤ k ∧ k ≤ 3) ∧ k ≤ n := by simp [flOk, inB, and_assoc]
end Go.Proofs.Ytbpamifkfbcloaa

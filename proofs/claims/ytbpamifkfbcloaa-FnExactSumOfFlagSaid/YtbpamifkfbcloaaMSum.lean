/- The laws' marks in sums. -/
import Derived.Test.YtbpamifkfbcloaaMTerm
import Derived.Test.YtbpamifkfbcloaaNs
namespace Go.Proofs.Ytbpamifkfbcloaa
open Go.ChangeShapes Go.WideShapes Go.ChangeAt Go.RowKit
set_option linter.unusedVariables false
set_option linter.unusedSimpArgs false
attribute [local irreducible] Calls
theorem markFlagSum_any (w : World) (B : Nat) (n e s : Int) (xs : List ((Int × (Int × Int)) × (Int × Int))) (v : Value) (F : List Nat) (k : Int) (h : Own shTerm B w xs v F) (hk : 0 ≤ k) (hb : k + 5 * xs.length ≤ 2147483647) :
    Calls Try.prog 12 #[.agg #[.int .i64 n, .int .u32 e, .int .i64 s, v], .int .i64 k] w fun e w' => e = .returned (.int .i64 (k + 5 * xs.length)) ∧ Own shTerm B w' (mkTermS k xs.length) v F ∧ Chg F w w' := by
  obtain ⟨A, cap, rfl, _⟩ := formTerm h.lst
  go_enter Try.func12, Try.ntmps12
  go_wp2_with fail
  refine Calls.mono (markTermS_any _ B xs _ F k (h.below (Nat.le_refl _) (by (try with_reducible refine bsz ?_); repeat (first | with_reducible exact Below.refl _ _ | ((with_reducible refine bpre ?_); (try simp only [Array.append_assoc]); repeat (first | with_reducible exact Pre.refl _ | with_reducible exact Pre.base _ _ | with_reducible refine Pre.cons _ ?_)) | with_reducible assumption | ((with_reducible refine bsetr ?_); rfl) | with_reducible refine Below.setCell ?_ (by simp <;> omega) _ | with_reducible refine bpl ?_ _ _ | with_reducible refine bal ?_ _ | with_reducible refine bdrew1 ?_ | with_reducible refine bdrew ?_ _))) hk hb) ?_
  rintro e0 w1 ⟨rfl, hO, hC⟩
  have hO := Lib.hid hO
  have hC := Lib.hid hC
  go_wp2_with fail
  exact bodyPost_ret (v := .int .i64 (k + 5 * xs.length)) (by simp [results, Try.results12, go_sem]) rfl ⟨rfl, hO.out, (Chg.of (by (try with_reducible refine bsz ?_); repeat (first | with_reducible exact Below.refl _ _ | ((with_reducible refine bpre ?_); (try simp only [Array.append_assoc]); repeat (first | with_reducible exact Pre.refl _ | with_reducible exact Pre.base _ _ | with_reducible refine Pre.cons _ ?_)) | with_reducible assumption | ((with_reducible refine bsetr ?_); rfl) | with_reducible refine Below.setCell ?_ (by simp <;> omega) _ | with_reducible refine bpl ?_ _ _ | with_reducible refine bal ?_ _ | with_reducible refine bdrew1 ?_ | with_reducible refine bdrew ?_ _)) F).trans hC.out⟩
theorem heldFlagSum_any (w : World) (n e s : Int) (m0 : Nat) (v : Value) (k : Int) (h : Lst shTerm w (mkTermS k m0) v) (hk : 0 ≤ k) (hb : k + 5 * m0 ≤ 2147483647) :
    Calls Try.prog 13 #[.agg #[.int .i64 n, .int .u32 e, .int .i64 s, v], .int .i64 k] w fun e w' => e = .returned (.int .i64 (k + 5 * m0)) ∧ Below w.heap.size w w' := by
  obtain ⟨A, cap, rfl, _⟩ := formTerm h
  rw [mkTermS_len] at h ⊢
  go_enter Try.func13, Try.ntmps13
  go_wp2_with (first | (go_at_call 43; refine Calls.mono (heldTermS_any _ m0 _ k (h.below (by (try with_reducible refine bsz ?_); repeat (first | with_reducible exact Below.refl _ _ | ((with_reducible refine bpre ?_); (try simp only [Array.append_assoc]); repeat (first | with_reducible exact Pre.refl _ | with_reducible exact Pre.base _ _ | with_reducible refine Pre.cons _ ?_)) | with_reducible assumption | ((with_reducible refine bsetr ?_); rfl) | with_reducible refine Below.setCell ?_ (by simp <;> omega) _ | with_reducible refine bpl ?_ _ _ | with_reducible refine bal ?_ _ | with_reducible refine bdrew1 ?_ | with_reducible refine bdrew ?_ _))) hk hb) ?_; rintro e w1 ⟨rfl, hb⟩; obtain ⟨X, m, rfl⟩ := plsOf hb; clear hb))
  exact bodyPost_ret (v := .int .i64 (k + 5 * m0)) (by simp [results, Try.results13, go_sem]) rfl ⟨rfl, (by (try with_reducible refine bsz ?_); repeat (first | with_reducible exact Below.refl _ _ | ((with_reducible refine bpre ?_); (try simp only [Array.append_assoc]); repeat (first | with_reducible exact Pre.refl _ | with_reducible exact Pre.base _ _ | with_reducible refine Pre.cons _ ?_)) | with_reducible assumption | ((with_reducible refine bsetr ?_); rfl) | with_reducible refine Below.setCell ?_ (by simp <;> omega) _ | with_reducible refine bpl ?_ _ _ | with_reducible refine bal ?_ _ | with_reducible refine bdrew1 ?_ | with_reducible refine bdrew ?_ _))⟩
end Go.Proofs.Ytbpamifkfbcloaa

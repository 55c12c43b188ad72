/- The laws' copies and equality of impl.FlagSum. -/
import Derived.Test.YtbpamifkfbcloaaTTerm
namespace Go.Proofs.Ytbpamifkfbcloaa
open Go.ChangeShapes Go.WideShapes Go.ChangeAt Go.RowKit
set_option linter.unusedVariables false
set_option linter.unusedSimpArgs false

theorem toFlagSum_any (w : World) (n e s : Int) (xs : List ((Int × (Int × Int)) × (Int × Int))) (v : Value) (h : Lst shTerm w xs v) (hb : xs.length ≤ 1048576) :
    Calls Try.prog 21 #[.agg #[.int .i64 n, .int .u32 e, .int .i64 s, v]] w fun e0 w' => ∃ A cap F, e0 = .returned (.agg #[.int .i64 n, .int .u32 e, .int .i64 s, .slice A xs.length cap]) ∧ Own shTerm w.heap.size w' xs (.slice A xs.length cap) F ∧ Below w.heap.size w w' := by
  obtain ⟨A0, cap0, rfl, _, _⟩ := formTerm h
  go_enter Try.func21, Try.ntmps21
  go_wp2_with (first | (go_at_call 35; refine Calls.mono (toGraph_any _ _ _) ?_; rintro e w1 ⟨rfl, hb⟩; obtain ⟨X, m, rfl⟩ := plsOf hb; clear hb) | (fail))
  refine (toTermS_any _ xs _ (h.below (by (try with_reducible refine bsz ?_); repeat (first | with_reducible exact Below.refl _ _ | ((with_reducible refine bpre ?_); (try simp only [Array.append_assoc]); repeat (first | with_reducible exact Pre.refl _ | with_reducible exact Pre.base _ _ | with_reducible refine Pre.cons _ ?_)) | with_reducible assumption | ((with_reducible refine bsetr ?_); rfl) | with_reducible refine Below.setCell ?_ (by simp <;> omega) _ | with_reducible refine bpl ?_ _ _ | with_reducible refine bal ?_ _ | with_reducible refine bdrew1 ?_ | with_reducible refine bdrew ?_ _))) hb).mono ?_
  rintro e0 w1 ⟨A, cap, F, rfl, hO, hb1⟩
  obtain ⟨X, m, rfl⟩ := plsOf hb1
  clear hb1
  rw [pls_pls] at hO
  go_wp2
  exact bodyPost_ret (v := .agg #[.int .i64 n, .int .u32 e, .int .i64 s, .slice A xs.length cap]) (by simp [results, Try.results21, go_sem]) rfl ⟨_, _, _, rfl, hO.at (by simp) (by simp [World.setCell]) (by simp; omega), (by (try with_reducible refine bsz ?_); repeat (first | with_reducible exact Below.refl _ _ | ((with_reducible refine bpre ?_); (try simp only [Array.append_assoc]); repeat (first | with_reducible exact Pre.refl _ | with_reducible exact Pre.base _ _ | with_reducible refine Pre.cons _ ?_)) | with_reducible assumption | ((with_reducible refine bsetr ?_); rfl) | with_reducible refine Below.setCell ?_ (by simp <;> omega) _ | with_reducible refine bpl ?_ _ _ | with_reducible refine bal ?_ _ | with_reducible refine bdrew1 ?_ | with_reducible refine bdrew ?_ _))⟩
theorem eqFlagSum_same (w : World) (n e s : Int) (xs : List ((Int × (Int × Int)) × (Int × Int))) (v v' : Value) (h : Lst shTerm w xs v) (h' : Lst shTerm w xs v') (hb : xs.length ≤ 9223372036854775806) :
    Calls Try.prog 11 #[.agg #[.int .i64 n, .int .u32 e, .int .i64 s, v], .agg #[.int .i64 n, .int .u32 e, .int .i64 s, v']] w fun e0 w' => e0 = .returned (.bool true) ∧ Below w.heap.size w w' := by
  have h1 : (s != s) = false := by simp
  go_enter Try.func11, Try.ntmps11
  go_wp2_with (first | (go_at_call 40; refine Calls.mono (eqGraph_same _ _ _) ?_; rintro e w1 ⟨rfl, hb⟩; obtain ⟨X, m, rfl⟩ := plsOf hb; clear hb) | (go_at_call 41; refine Calls.mono (eqTermS_same _ xs v v' (h.below (by (try with_reducible refine bsz ?_); repeat (first | with_reducible exact Below.refl _ _ | ((with_reducible refine bpre ?_); (try simp only [Array.append_assoc]); repeat (first | with_reducible exact Pre.refl _ | with_reducible exact Pre.base _ _ | with_reducible refine Pre.cons _ ?_)) | with_reducible assumption | ((with_reducible refine bsetr ?_); rfl) | with_reducible refine Below.setCell ?_ (by simp <;> omega) _ | with_reducible refine bpl ?_ _ _ | with_reducible refine bal ?_ _ | with_reducible refine bdrew1 ?_ | with_reducible refine bdrew ?_ _))) (h'.below (by (try with_reducible refine bsz ?_); repeat (first | with_reducible exact Below.refl _ _ | ((with_reducible refine bpre ?_); (try simp only [Array.append_assoc]); repeat (first | with_reducible exact Pre.refl _ | with_reducible exact Pre.base _ _ | with_reducible refine Pre.cons _ ?_)) | with_reducible assumption | ((with_reducible refine bsetr ?_); rfl) | with_reducible refine Below.setCell ?_ (by simp <;> omega) _ | with_reducible refine bpl ?_ _ _ | with_reducible refine bal ?_ _ | with_reducible refine bdrew1 ?_ | with_reducible refine bdrew ?_ _))) hb) ?_; rintro e w1 ⟨rfl, hb⟩; obtain ⟨X, m, rfl⟩ := plsOf hb; clear hb))
  go_ret
  exact ⟨rfl, (by (try with_reducible refine bsz ?_); repeat (first | with_reducible exact Below.refl _ _ | ((with_reducible refine bpre ?_); (try simp only [Array.append_assoc]); repeat (first | with_reducible exact Pre.refl _ | with_reducible exact Pre.base _ _ | with_reducible refine Pre.cons _ ?_)) | with_reducible assumption | ((with_reducible refine bsetr ?_); rfl) | with_reducible refine Below.setCell ?_ (by simp <;> omega) _ | with_reducible refine bpl ?_ _ _ | with_reducible refine bal ?_ _ | with_reducible refine bdrew1 ?_ | with_reducible refine bdrew ?_ _))⟩
theorem szFlagSum_any (w : World) (n e s : Int) (xs : List ((Int × (Int × Int)) × (Int × Int))) (v : Value) (left : Int) (h : Lst shTerm w xs v) (h1 : -1 ≤ left) (h2 : left ≤ 1048576) :
    Calls Try.prog 19 #[.agg #[.int .i64 n, .int .u32 e, .int .i64 s, v], .int .i64 left] w fun e0 w' => e0 = .returned (.int .i64 (szI left xs.length)) ∧ Below w.heap.size w w' := by
  obtain ⟨A, cap, rfl, hc, hm⟩ := formTerm h
  clear h
  by_cases hs : szI left xs.length < 0
  · have hx : szI left xs.length = -1 := by unfold szI at hs ⊢; split at hs <;> omega
    go_enter Try.func19, Try.ntmps19
    go_wp2_with (first | (go_at_call 55; refine Calls.mono (szTermS_any _ _ _ _ _ h1 h2 hc hm) ?_; rintro e w1 ⟨rfl, rfl⟩))
    exact bodyPost_ret (v := .int .i64 (-1)) (by simp [results, Try.results19, go_sem]) rfl ⟨by rw [hx], (by (try with_reducible refine bsz ?_); repeat (first | with_reducible exact Below.refl _ _ | ((with_reducible refine bpre ?_); (try simp only [Array.append_assoc]); repeat (first | with_reducible exact Pre.refl _ | with_reducible exact Pre.base _ _ | with_reducible refine Pre.cons _ ?_)) | with_reducible assumption | ((with_reducible refine bsetr ?_); rfl) | with_reducible refine Below.setCell ?_ (by simp <;> omega) _ | with_reducible refine bpl ?_ _ _ | with_reducible refine bal ?_ _ | with_reducible refine bdrew1 ?_ | with_reducible refine bdrew ?_ _))⟩
  · go_enter Try.func19, Try.ntmps19
    go_wp2_with (first | (go_at_call 55; refine Calls.mono (szTermS_any _ _ _ _ _ h1 h2 hc hm) ?_; rintro e w1 ⟨rfl, rfl⟩))
    exact bodyPost_ret (v := .int .i64 (szI left xs.length)) (by simp [results, Try.results19, go_sem]) rfl ⟨rfl, (by (try with_reducible refine bsz ?_); repeat (first | with_reducible exact Below.refl _ _ | ((with_reducible refine bpre ?_); (try simp only [Array.append_assoc]); repeat (first | with_reducible exact Pre.refl _ | with_reducible exact Pre.base _ _ | with_reducible refine Pre.cons _ ?_)) | with_reducible assumption | ((with_reducible refine bsetr ?_); rfl) | with_reducible refine Below.setCell ?_ (by simp <;> omega) _ | with_reducible refine bpl ?_ _ _ | with_reducible refine bal ?_ _ | with_reducible refine bdrew1 ?_ | with_reducible refine bdrew ?_ _))⟩
end Go.Proofs.Ytbpamifkfbcloaa

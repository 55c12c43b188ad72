/- ZeroSum returns what the reference returns: the law's row. -/
import Derived.Test.YtildbkhjoiikfaaTSum
import Derived.Test.YtildbkhjoiikfaaMSum
import Derived.Test.YtildbkhjoiikfaaGr
namespace Go.Proofs.Ytildbkhjoiikfaa
open Go.ChangeShapes Go.WideShapes Go.ChangeAt Go.RowKit
set_option linter.unusedVariables false
set_option linter.unusedSimpArgs false
attribute [local irreducible] Calls
theorem eqNil (n e s : Int) (w : World) : Calls Try.prog 18 #[.agg #[.int .i64 n, .int .u32 e, .int .i64 s, .slice none 0 0], .agg #[.int .i64 n, .int .u32 e, .int .i64 s, .slice none 0 0]] w fun e0 w' => e0 = .returned (.bool true) ∧ Below w.heap.size w w' :=
  eqFlagSum_same w n e s [] _ _ (Own.nil shTerm 0 w 0 (Nat.zero_le _) none).lst (Own.nil shTerm 0 w 0 (Nat.zero_le _) none).lst (by simp)
theorem markNil (n e s : Int) (w : World) : Calls Try.prog 19 #[.agg #[.int .i64 n, .int .u32 e, .int .i64 s, .slice none 0 0], .int .i64 1] w fun e0 w' => e0 = .returned (.int .i64 1) ∧ Below w.heap.size w w' :=
  (markFlagSum_any w 0 n e s [] _ [] 1 (Own.nil shTerm 0 w 0 (Nat.zero_le _) none) (by omega) (by simp)).mono fun _ _ ⟨he, _, hC⟩ => ⟨by simpa using he, hC.below (by simp) (Nat.le_refl _)⟩
theorem heldNil (n e s : Int) (w : World) : Calls Try.prog 20 #[.agg #[.int .i64 n, .int .u32 e, .int .i64 s, .slice none 0 0], .int .i64 1] w fun e0 w' => e0 = .returned (.int .i64 1) ∧ Below w.heap.size w w' :=
  (heldFlagSum_any w n e s 0 _ 1 (Own.nil shTerm 0 w 0 (Nat.zero_le _) none).lst (by omega) (by simp)).mono fun _ _ ⟨he, hB⟩ => ⟨by simpa using he, hB⟩

set_option maxHeartbeats 1000000 in
theorem walkZeroSum (n e s : Int) (w : World) (he : 0 ≤ e ∧ e ≤ 4294967295) :
    Calls Try.prog 3 #[.agg #[.int .i64 n, .int .u32 e], .int .i64 s] w fun e0 w' => e0 = .returned (.bool true) ∧ Below w.heap.size w w' := by
  have q1 : (tyC n e s != tyC n e s) = false := by simp
  go_enter Try.func3, Try.ntmps3
  go_wp2_with (first | (go_at_call 16; refine Calls.mono (toGraph_any _ _ _) ?_; rintro e w1 ⟨rfl, hb⟩; obtain ⟨X, m, rfl⟩ := plsOf hb; clear hb) | (go_at_call 15; refine Calls.mono (sZeroSum_any _ _ _ _ he) ?_; rintro e w1 ⟨rfl, hb⟩; obtain ⟨X, m, rfl⟩ := plsOf hb; clear hb) | (go_at_call 17; refine Calls.mono (ZeroSum_any _ _ _ _ he) ?_; rintro e w1 ⟨rfl, hb⟩; obtain ⟨X, m, rfl⟩ := plsOf hb; clear hb) | (go_at_call 18; refine Calls.mono (eqNil _ _ _ _) ?_; rintro e w1 ⟨rfl, hb⟩; obtain ⟨X, m, rfl⟩ := plsOf hb; clear hb) | (go_at_call 19; refine Calls.mono (markNil _ _ _ _) ?_; rintro e w1 ⟨rfl, hb⟩; obtain ⟨X, m, rfl⟩ := plsOf hb; clear hb) | (go_at_call 20; refine Calls.mono (heldNil _ _ _ _) ?_; rintro e w1 ⟨rfl, hb⟩; obtain ⟨X, m, rfl⟩ := plsOf hb; clear hb))
  exact bodyPost_ret (v := .bool true) (by simp [results, Try.results3, go_sem]) rfl ⟨rfl, (by (try with_reducible refine bsz ?_); repeat (first | with_reducible exact Below.refl _ _ | ((with_reducible refine bpre ?_); (try simp only [Array.append_assoc]); repeat (first | with_reducible exact Pre.refl _ | with_reducible exact Pre.base _ _ | with_reducible refine Pre.cons _ ?_)) | with_reducible assumption | ((with_reducible refine bsetr ?_); rfl) | with_reducible refine Below.setCell ?_ (by simp <;> omega) _ | with_reducible refine bpl ?_ _ _ | with_reducible refine bal ?_ _ | with_reducible refine bdrew1 ?_ | with_reducible refine bdrew ?_ _))⟩

set_option maxRecDepth 100000 in
theorem fnExactZeroSum_lifted (os : Os) (started : os.Started) (H : Type) (enc : TypeId × Value → H) :
    ReturnsInHanded {} Try.checked os 3 .any (Rows.fnExactZeroSumSpec.pre6 enc Try.prog Try.f3 Rows.fnExactZeroSumRow.domain false) (Rows.fnExactZeroSumSpec.post enc Try.prog Try.f3 false true false false) := by
  refine returnsInHanded_of_change (C := Try.checked) tryOwn started (by kernel_rfl) Try.func3
    (ChangeSpec.witness6 (enc := enc) (C := Try.checked) false ⟨#[], #[.agg #[.int .i64 0, .int .u32 0], .int .i64 0], []⟩ 8 (by kernel_rfl) (by kernel_rfl) (by kernel_rfl) (by kernel_rfl)) ?_
  intro W base args ds gs before hval0 hW hcnd _
  have hval : ∀ (j : Nat) t v, Try.f3.params[j]? = some t → args[j]? = some v → Value.okWide Try.prog W .any base t v := hval0
  have hW' := hW
  obtain ⟨p, q, hA0, hV, _, _, _⟩ := hW
  have hA : DataW.TrodAll enc Try.prog W 0 (fun _ => true) true Try.f3.params.toList args.toList ds p := hA0
  rw [Try.params3] at hA hval
  obtain ⟨v0, v1, d0, d1, p0, p1, rfl, rfl, rfl, h0, h1⟩ := trodAll_two hA
  obtain ⟨rfl, rfl⟩ := trodVars_none hV
  obtain ⟨a, ca, rfl, ha⟩ := arg_struct Try.underlying24 readsGr (hval 0 24 v0 rfl rfl) h0
  obtain ⟨rfl, ha1, ha2⟩ := rep_gr ha
  obtain ⟨s, rfl, hs⟩ := okWide_int Try.underlying2 (hval 1 2 v1 rfl rfl)
  refine (walkZeroSum a.1 a.2 s W ha2).mono fun e W' ⟨he, hb⟩ => ?_
  exact ⟨_, he, law_post (f := Try.f3) (s := Rows.fnExactZeroSumSpec) tryLaid (by kernel_rfl) rfl rfl Try.underlying4 hW' rfl hb⟩
theorem fnExactZeroSum_holds : Rows.FnExactZeroSumSaid :=
  OpenClaim.holds_of_wide 3 Try.f3 rfl rfl rfl rfl rfl rfl rfl ⟨rfl, rfl, rfl, rfl, rfl⟩ rfl rfl rfl rfl rfl (by kernel_rfl) Try.func3 (by kernel_rfl)
    (of_decide_eq_true (by kernel_rfl)) (by unfold Func.isWrapper; first | (rw [if_pos (by decide +kernel)]; kernel_rfl) | (rw [if_neg (by decide +kernel)]; exact ⟨rfl, rfl⟩))
    (fun os started H enc _ => fnExactZeroSum_lifted os started H enc)
#print axioms fnExactZeroSum_holds
end Go.Proofs.Ytildbkhjoiikfaa

/- SumOfFlag returns what the reference returns: the law's row. -/
import Derived.Test.YtbpamifkfbcloaaWSumOfFlag
import Derived.Test.YtbpamifkfbcloaaGk
namespace Go.Proofs.Ytbpamifkfbcloaa
open Go.ChangeShapes Go.WideShapes Go.ChangeAt Go.RowKit
set_option linter.unusedVariables false
set_option linter.unusedSimpArgs false
attribute [local irreducible] Calls
theorem wholeSumOfFlag (k n e : Int) (w : World) (he : 0 ≤ e ∧ e ≤ 4294967295) :
    Calls Try.prog 3 #[.agg #[.int .i64 k, .int .i64 n, .int .u32 e]] w fun e0 w' => e0 = .returned (.bool true) ∧ Below w.heap.size w w' := by
  cases h : flOk k n e
  · exact walkSumOfFlag k n e 0 0 0 [] 1 (by simp) (fun W => SumOfFlag_bad k n e W he h) (fun W => sSumOfFlag_bad k n e W he h) w
  · obtain ⟨h1, h2, h3⟩ := (flOk_iff _ _ _).1 h
    obtain ⟨k, rfl⟩ := Int.eq_ofNat_of_zero_le h2.1
    obtain ⟨n, rfl⟩ := Int.eq_ofNat_of_zero_le (show 0 ≤ n by omega)
    exact walkSumOfFlag k n e k (onE e (seqI k)) n [(((k : Int), ((n : Int), leastI n k e)), (1, 1))] 0 (by simp) (fun W => SumOfFlag_any k n e W he h) (fun W => sSumOfFlag_any k n e W he h) w

set_option maxRecDepth 100000 in
theorem fnExactSumOfFlag_lifted (os : Os) (started : os.Started) (H : Type) (enc : TypeId × Value → H) :
    ReturnsInHanded {} Try.checked os 3 .any (Rows.fnExactSumOfFlagSpec.pre6 enc Try.prog Try.f3 Rows.fnExactSumOfFlagRow.domain false) (Rows.fnExactSumOfFlagSpec.post enc Try.prog Try.f3 false true false false) := by
  refine returnsInHanded_of_change (C := Try.checked) tryOwn started (by kernel_rfl) Try.func3
    (ChangeSpec.witness6 (enc := enc) (C := Try.checked) false ⟨#[], #[.agg #[.int .i64 0, .int .i64 0, .int .u32 0]], []⟩ 8 (by kernel_rfl) (by kernel_rfl) (by kernel_rfl) (by kernel_rfl)) ?_
  intro W base args ds gs before hval0 hW hcnd _
  have hval : ∀ (j : Nat) t v, Try.f3.params[j]? = some t → args[j]? = some v → Value.okWide Try.prog W .any base t v := hval0
  have hW' := hW
  obtain ⟨p, q, hA0, hV, _, _, _⟩ := hW
  have hA : DataW.TrodAll enc Try.prog W 0 (fun _ => true) true Try.f3.params.toList args.toList ds p := hA0
  rw [Try.params3] at hA hval
  obtain ⟨v0, d0, rfl, rfl, h0⟩ := trodAll_one hA
  obtain ⟨rfl, rfl⟩ := trodVars_none hV
  obtain ⟨a, ca, rfl, ha⟩ := arg_struct Try.underlying26 readsFlag (hval 0 26 v0 rfl rfl) h0
  obtain ⟨rfl, ha1, ha2, ha3⟩ := rep_flag ha
  refine (wholeSumOfFlag a.1 a.2.1 a.2.2 W ha3).mono fun e W' ⟨he, hb⟩ => ?_
  exact ⟨_, he, law_post (f := Try.f3) (s := Rows.fnExactSumOfFlagSpec) tryLaid (by kernel_rfl) rfl rfl Try.underlying4 hW' rfl hb⟩
theorem fnExactSumOfFlag_holds : Rows.FnExactSumOfFlagSaid :=
  OpenClaim.holds_of_wide 3 Try.f3 rfl rfl rfl rfl rfl rfl rfl ⟨rfl, rfl, rfl, rfl, rfl⟩ rfl rfl rfl rfl rfl (by kernel_rfl) Try.func3 (by kernel_rfl)
    (of_decide_eq_true (by kernel_rfl)) (by unfold Func.isWrapper; first | (rw [if_pos (by decide +kernel)]; kernel_rfl) | (rw [if_neg (by decide +kernel)]; exact ⟨rfl, rfl⟩))
    (fun os started H enc _ => fnExactSumOfFlag_lifted os started H enc)
#print axioms fnExactSumOfFlag_holds
end Go.Proofs.Ytbpamifkfbcloaa

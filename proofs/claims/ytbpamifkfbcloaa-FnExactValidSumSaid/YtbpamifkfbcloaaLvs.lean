/- ValidSum returns what the reference returns: the law's row. -/
import Derived.Test.YtbpamifkfbcloaaWValidSum
import Derived.Test.YtbpamifkfbcloaaVr
import Derived.Test.YtbpamifkfbcloaaVt
namespace Go.Proofs.Ytbpamifkfbcloaa
open Go.ChangeShapes Go.WideShapes Go.ChangeAt Go.RowKit
set_option linter.unusedVariables false
set_option linter.unusedSimpArgs false
attribute [local irreducible] Calls
theorem rep_sumB {w : World} {d : shSum.T} {cs : List Value} (h : shSum.rep w d cs) : ∃ v, cs = [.int .i64 d.1.1, .int .u32 d.1.2, .int .i64 d.2.1, v] ∧ Lst shTerm w d.2.2 v ∧ (0 ≤ d.1.2 ∧ d.1.2 ≤ 4294967295) := by
  obtain ⟨v, h1, h2⟩ := rep_sum h
  obtain ⟨c1, c2, _, h3, _⟩ := h
  exact ⟨v, h1, h2, (rep_gr h3).2.2⟩
theorem wholeValidSum (tn te s : Int) (xs : List Trm) (v : Value) (w : World) (h : Lst shTerm w xs v) (he : 0 ≤ te ∧ te ≤ 4294967295) :
    Calls Try.prog 5 #[.agg #[.int .i64 tn, .int .u32 te, .int .i64 s, v]] w fun e0 w' => e0 = .returned (.bool true) ∧ Below w.heap.size w w' :=
  walkValidSum tn te s xs v (sumOk tn te s xs) (fun W u0 g0 l0 => ValidSum_any W tn te s xs u0 g0 he) (fun W u0 g0 l0 => sValidSum_any W tn te s xs u0 g0 he) w h

set_option maxRecDepth 100000 in
theorem fnExactValidSum_lifted (os : Os) (started : os.Started) (H : Type) (enc : TypeId × Value → H) :
    ReturnsInHanded {} Try.checked os 5 .any (Rows.fnExactValidSumSpec.pre6 enc Try.prog Try.f5 Rows.fnExactValidSumRow.domain false) (Rows.fnExactValidSumSpec.post enc Try.prog Try.f5 false true false false) := by
  refine returnsInHanded_of_change (C := Try.checked) tryOwn started (by kernel_rfl) Try.func5
    (ChangeSpec.witness6 (enc := enc) (C := Try.checked) false ⟨#[], #[.agg #[.int .i64 0, .int .u32 0, .int .i64 0, .slice none 0 0]], []⟩ 8 (by kernel_rfl) (by kernel_rfl) (by kernel_rfl) (by kernel_rfl)) ?_
  intro W base args ds gs before hval0 hW hcnd _
  have hval : ∀ (j : Nat) t v, Try.f5.params[j]? = some t → args[j]? = some v → Value.okWide Try.prog W .any base t v := hval0
  have hW' := hW
  obtain ⟨p, q, hA0, hV, _, _, _⟩ := hW
  have hA : DataW.TrodAll enc Try.prog W 0 (fun _ => true) true Try.f5.params.toList args.toList ds p := hA0
  rw [Try.params5] at hA hval
  obtain ⟨v0, d0, rfl, rfl, h0⟩ := trodAll_one hA
  obtain ⟨rfl, rfl⟩ := trodVars_none hV
  obtain ⟨a, ca, rfl, ha⟩ := arg_struct Try.underlying54 readsSum (hval 0 54 v0 rfl rfl) h0
  obtain ⟨x1, rfl, hx1, he1⟩ := rep_sumB ha
  refine (wholeValidSum a.1.1 a.1.2 a.2.1 a.2.2 x1 W hx1 he1).mono fun e W' ⟨he, hb⟩ => ?_
  exact ⟨_, he, law_post (f := Try.f5) (s := Rows.fnExactValidSumSpec) tryLaid (by kernel_rfl) rfl rfl Try.underlying4 hW' rfl hb⟩
theorem fnExactValidSum_holds : Rows.FnExactValidSumSaid :=
  OpenClaim.holds_of_wide 5 Try.f5 rfl rfl rfl rfl rfl rfl rfl ⟨rfl, rfl, rfl, rfl, rfl⟩ rfl rfl rfl rfl rfl (by kernel_rfl) Try.func5 (by kernel_rfl)
    (of_decide_eq_true (by kernel_rfl)) (by unfold Func.isWrapper; first | (rw [if_pos (by decide +kernel)]; kernel_rfl) | (rw [if_neg (by decide +kernel)]; exact ⟨rfl, rfl⟩))
    (fun os started H enc _ => fnExactValidSum_lifted os started H enc)
#print axioms fnExactValidSum_holds
end Go.Proofs.Ytbpamifkfbcloaa

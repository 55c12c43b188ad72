/- WithoutForbidden returns what the reference returns: the law's row. -/
import Derived.Test.YtfdobpeekipafaaWWithoutForbidden
import Derived.Test.YtfdobpeekipafaaWg
namespace Go.Proofs.Ytfdobpeekipafaa
open Go.ChangeShapes Go.WideShapes Go.ChangeAt Go.RowKit
set_option linter.unusedVariables false
set_option linter.unusedSimpArgs false
attribute [local irreducible] Calls
theorem rep_sumB {w : World} {d : shSum.T} {cs : List Value} (h : shSum.rep w d cs) : ∃ v, cs = [.int .i64 d.1.1, .int .u32 d.1.2, .int .i64 d.2.1, v] ∧ Lst shTerm w d.2.2 v ∧ (0 ≤ d.1.2 ∧ d.1.2 ≤ 4294967295) := by
  obtain ⟨v, h1, h2⟩ := rep_sum h
  obtain ⟨c1, c2, _, h3, _⟩ := h
  exact ⟨v, h1, h2, (rep_gr h3).2.2⟩
theorem wfR_len (tn te s : Int) (xs : List Trm) (gs : List (Int × Int)) : (tdL (pkC tn te s xs gs) (wfL gs xs)).length ≤ 100000 := by
  by_cases hc : pkC tn te s xs gs = 0
  · have h0 : sumOk tn te s xs = true := by
      unfold pkC at hc
      split at hc
      · assumption
      · omega
    have h1 := (sumOk_iff.1 h0).2.2.1
    have h2 : (wfL gs xs).length ≤ xs.length := List.length_filter_le _ _
    rw [show tdL (pkC tn te s xs gs) (wfL gs xs) = wfL gs xs from if_pos hc]
    exact Nat.le_trans h2 (by omega)
  · rw [show tdL (pkC tn te s xs gs) (wfL gs xs) = [] from if_neg hc]
    simp
theorem wholeWithoutForbidden (tn te s : Int) (xs : List Trm) (gs : List (Int × Int)) (v gv : Value) (w : World) (h : Lst shTerm w xs v) (he : 0 ≤ te ∧ te ≤ 4294967295) (hg : Lst shGr w gs gv) :
    Calls Try.prog 8 #[.agg #[.int .i64 tn, .int .u32 te, .int .i64 s, v], gv] w fun e0 w' => e0 = .returned (.bool true) ∧ Below w.heap.size w w' :=
  walkWithoutForbidden tn te s xs v gs gv (tdT (pkC tn te s xs gs) (tn, te)).1 (tdT (pkC tn te s xs gs) (tn, te)).2 (tdS (pkC tn te s xs gs) s) (tdL (pkC tn te s xs gs) (wfL gs xs)) (pkC tn te s xs gs) (wfR_len tn te s xs gs) (fun W u0 u1 g0 g1 l0 l1 => WithoutForbidden_any W tn te s xs gs u0 u1 g0 g1 he l1) (fun W u0 u1 g0 g1 l0 l1 => sWithoutForbidden_any W tn te s xs gs u0 u1 g0 g1 he) w h hg

set_option maxRecDepth 100000 in
theorem fnExactWithoutForbidden_lifted (os : Os) (started : os.Started) (H : Type) (enc : TypeId × Value → H) :
    ReturnsInHanded {} Try.checked os 8 .any (Rows.fnExactWithoutForbiddenSpec.pre6 enc Try.prog Try.f8 Rows.fnExactWithoutForbiddenRow.domain false) (Rows.fnExactWithoutForbiddenSpec.post enc Try.prog Try.f8 false true false false) := by
  refine returnsInHanded_of_change (C := Try.checked) tryOwn started (by kernel_rfl) Try.func8
    (ChangeSpec.witness6 (enc := enc) (C := Try.checked) false ⟨#[], #[.agg #[.int .i64 0, .int .u32 0, .int .i64 0, .slice none 0 0], .slice none 0 0], []⟩ 8 (by kernel_rfl) (by kernel_rfl) (by kernel_rfl) (by kernel_rfl)) ?_
  intro W base args ds gs before hval0 hW hcnd _
  have hval : ∀ (j : Nat) t v, Try.f8.params[j]? = some t → args[j]? = some v → Value.okWide Try.prog W .any base t v := hval0
  have hW' := hW
  obtain ⟨p, q, hA0, hV, _, _, _⟩ := hW
  have hA : DataW.TrodAll enc Try.prog W 0 (fun _ => true) true Try.f8.params.toList args.toList ds p := hA0
  rw [Try.params8] at hA hval
  obtain ⟨v0, v1, d0, d1, p0, p1, rfl, rfl, rfl, h0, h1⟩ := trodAll_two hA
  obtain ⟨rfl, rfl⟩ := trodVars_none hV
  obtain ⟨a, ca, rfl, ha⟩ := arg_struct Try.underlying58 readsSum (hval 0 58 v0 rfl rfl) h0
  obtain ⟨x1, rfl, hx1, he1⟩ := rep_sumB ha
  obtain ⟨b, hb⟩ := arg_slice Try.underlying59 readsGrS (hval 1 59 v1 rfl rfl) h1
  refine (wholeWithoutForbidden a.1.1 a.1.2 a.2.1 a.2.2 b x1 v1 W hx1 he1 hb).mono fun e W' ⟨he, hb⟩ => ?_
  exact ⟨_, he, law_post (f := Try.f8) (s := Rows.fnExactWithoutForbiddenSpec) tryLaid (by kernel_rfl) rfl rfl Try.underlying4 hW' rfl hb⟩
theorem fnExactWithoutForbidden_holds : Rows.FnExactWithoutForbiddenSaid :=
  OpenClaim.holds_of_wide 8 Try.f8 rfl rfl rfl rfl rfl rfl rfl ⟨rfl, rfl, rfl, rfl, rfl⟩ rfl rfl rfl rfl rfl (by kernel_rfl) Try.func8 (by kernel_rfl)
    (of_decide_eq_true (by kernel_rfl)) (by unfold Func.isWrapper; first | (rw [if_pos (by decide +kernel)]; kernel_rfl) | (rw [if_neg (by decide +kernel)]; exact ⟨rfl, rfl⟩))
    (fun os started H enc _ => fnExactWithoutForbidden_lifted os started H enc)
#print axioms fnExactWithoutForbidden_holds
end Go.Proofs.Ytfdobpeekipafaa

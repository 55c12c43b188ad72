/- ValueIn returns what the reference returns: the law's row. -/
import Derived.Test.YtkfjlimlodbcgaaWValueIn
import Derived.Test.YtkfjlimlodbcgaaVp
namespace Go.Proofs.Ytkfjlimlodbcgaa
open Go.ChangeShapes Go.WideShapes Go.ChangeAt Go.RowKit
set_option linter.unusedVariables false
set_option linter.unusedSimpArgs false
attribute [local irreducible] Calls
theorem rep_sumB {w : World} {d : shSum.T} {cs : List Value} (h : shSum.rep w d cs) : ∃ v, cs = [.int .i64 d.1.1, .int .u32 d.1.2, .int .i64 d.2.1, v] ∧ Lst shTerm w d.2.2 v ∧ (0 ≤ d.1.2 ∧ d.1.2 ≤ 4294967295) := by
  obtain ⟨v, h1, h2⟩ := rep_sum h
  obtain ⟨c1, c2, _, h3, _⟩ := h
  exact ⟨v, h1, h2, (rep_gr h3).2.2⟩
theorem rep_flagB {w : World} {d : shFlag.T} {cs : List Value} (h : shFlag.rep w d cs) : cs = [.int .i64 d.1, .int .i64 d.2.1, .int .u32 d.2.2] ∧ okFlag d := by
  obtain ⟨rfl, h2⟩ := (flatFlag.1 _ _ _).1 h
  exact ⟨rfl, h2⟩
theorem wholeValueIn (tn te s : Int) (xs : List Trm) (f : Flg) (v : Value) (w : World) (h : Lst shTerm w xs v) (he : 0 ≤ te ∧ te ≤ 4294967295) (hf : okFlag f) :
    Calls Try.prog 4 #[.agg #[.int .i64 tn, .int .u32 te, .int .i64 s, v], .agg #[.int .i64 f.1, .int .i64 f.2.1, .int .u32 f.2.2]] w fun e0 w' => e0 = .returned (.bool true) ∧ Below w.heap.size w w' :=
  walkValueIn tn te s xs v f.1 f.2.1 f.2.2 (viR tn te s xs f).1 (viR tn te s xs f).2 (viC tn te s xs f) (fun W u0 g0 l0 => ValueIn_any W tn te s xs u0 f g0 he hf) (fun W u0 g0 l0 => sValueIn_any W tn te s xs u0 f g0 he hf) w h

set_option maxRecDepth 100000 in
theorem fnExactValueIn_lifted (os : Os) (started : os.Started) (H : Type) (enc : TypeId × Value → H) :
    ReturnsInHanded {} Try.checked os 4 .any (Rows.fnExactValueInSpec.pre6 enc Try.prog Try.f4 Rows.fnExactValueInRow.domain false) (Rows.fnExactValueInSpec.post enc Try.prog Try.f4 false true false false) := by
  refine returnsInHanded_of_change (C := Try.checked) tryOwn started (by kernel_rfl) Try.func4
    (ChangeSpec.witness6 (enc := enc) (C := Try.checked) false ⟨#[], #[.agg #[.int .i64 0, .int .u32 0, .int .i64 0, .slice none 0 0], .agg #[.int .i64 0, .int .i64 0, .int .u32 0]], []⟩ 8 (by kernel_rfl) (by kernel_rfl) (by kernel_rfl) (by kernel_rfl)) ?_
  intro W base args ds gs before hval0 hW hcnd _
  have hval : ∀ (j : Nat) t v, Try.f4.params[j]? = some t → args[j]? = some v → Value.okWide Try.prog W .any base t v := hval0
  have hW' := hW
  obtain ⟨p, q, hA0, hV, _, _, _⟩ := hW
  have hA : DataW.TrodAll enc Try.prog W 0 (fun _ => true) true Try.f4.params.toList args.toList ds p := hA0
  rw [Try.params4] at hA hval
  obtain ⟨v0, v1, d0, d1, p0, p1, rfl, rfl, rfl, h0, h1⟩ := trodAll_two hA
  obtain ⟨rfl, rfl⟩ := trodVars_none hV
  obtain ⟨a, ca, rfl, ha⟩ := arg_struct Try.underlying40 readsSum (hval 0 40 v0 rfl rfl) h0
  obtain ⟨x1, rfl, hx1, he1⟩ := rep_sumB ha
  obtain ⟨b, cb, rfl, hb⟩ := arg_struct Try.underlying26 readsFlag (hval 1 26 v1 rfl rfl) h1
  obtain ⟨rfl, hb1⟩ := rep_flagB hb
  refine (wholeValueIn a.1.1 a.1.2 a.2.1 a.2.2 b x1 W hx1 he1 hb1).mono fun e W' ⟨he, hb⟩ => ?_
  exact ⟨_, he, law_post (f := Try.f4) (s := Rows.fnExactValueInSpec) tryLaid (by kernel_rfl) rfl rfl Try.underlying4 hW' rfl hb⟩
theorem fnExactValueIn_holds : Rows.FnExactValueInSaid :=
  OpenClaim.holds_of_wide 4 Try.f4 rfl rfl rfl rfl rfl rfl rfl ⟨rfl, rfl, rfl, rfl, rfl⟩ rfl rfl rfl rfl rfl (by kernel_rfl) Try.func4 (by kernel_rfl)
    (of_decide_eq_true (by kernel_rfl)) (by unfold Func.isWrapper; first | (rw [if_pos (by decide +kernel)]; kernel_rfl) | (rw [if_neg (by decide +kernel)]; exact ⟨rfl, rfl⟩))
    (fun os started H enc _ => fnExactValueIn_lifted os started H enc)
#print axioms fnExactValueIn_holds
end Go.Proofs.Ytkfjlimlodbcgaa

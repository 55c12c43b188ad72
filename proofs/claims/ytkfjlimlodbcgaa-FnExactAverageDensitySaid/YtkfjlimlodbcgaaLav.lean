/- AverageDensity returns what the reference returns: the law's row. -/
import Derived.Test.YtkfjlimlodbcgaaWAverageDensity
import Derived.Test.YtkfjlimlodbcgaaBe
namespace Go.Proofs.Ytkfjlimlodbcgaa
open Go.ChangeShapes Go.WideShapes Go.ChangeAt Go.RowKit
set_option linter.unusedVariables false
set_option linter.unusedSimpArgs false
attribute [local irreducible] Calls
theorem rep_flagV {w : World} {d : shFlag.T} {cs : List Value} (h : shFlag.rep w d cs) : cs = [.int .i64 d.1, .int .i64 d.2.1, .int .u32 d.2.2] ∧ okFlag d := by
  obtain ⟨rfl, h2⟩ := (flatFlag.1 _ _ _).1 h
  exact ⟨rfl, h2⟩
theorem wholeAverageDensity (f : Flg) (n e : Int) (w : World) (hf : okFlag f) (he : 0 ≤ e ∧ e ≤ 4294967295) :
    Calls Try.prog 3 #[.agg #[.int .i64 f.1, .int .i64 f.2.1, .int .u32 f.2.2], .agg #[.int .i64 n, .int .u32 e]] w fun e0 w' => e0 = .returned (.bool true) ∧ Below w.heap.size w w' :=
  walkAverageDensity f.1 f.2.1 f.2.2 n e (adR f n e).1 (adR f n e).2 (adC f n e) (fun W => AverageDensity_any W f n e hf he) (fun W => sAverageDensity_any W f n e hf he) w

set_option maxRecDepth 100000 in
theorem fnExactAverageDensity_lifted (os : Os) (started : os.Started) (H : Type) (enc : TypeId × Value → H) :
    ReturnsInHanded {} Try.checked os 3 .any (Rows.fnExactAverageDensitySpec.pre6 enc Try.prog Try.f3 Rows.fnExactAverageDensityRow.domain false) (Rows.fnExactAverageDensitySpec.post enc Try.prog Try.f3 false true false false) := by
  refine returnsInHanded_of_change (C := Try.checked) tryOwn started (by kernel_rfl) Try.func3
    (ChangeSpec.witness6 (enc := enc) (C := Try.checked) false ⟨#[], #[.agg #[.int .i64 0, .int .i64 0, .int .u32 0], .agg #[.int .i64 0, .int .u32 0]], []⟩ 8 (by kernel_rfl) (by kernel_rfl) (by kernel_rfl) (by kernel_rfl)) ?_
  intro W base args ds gs before hval0 hW hcnd _
  have hval : ∀ (j : Nat) t v, Try.f3.params[j]? = some t → args[j]? = some v → Value.okWide Try.prog W .any base t v := hval0
  have hW' := hW
  obtain ⟨p, q, hA0, hV, _, _, _⟩ := hW
  have hA : DataW.TrodAll enc Try.prog W 0 (fun _ => true) true Try.f3.params.toList args.toList ds p := hA0
  rw [Try.params3] at hA hval
  obtain ⟨v0, v1, d0, d1, p0, p1, rfl, rfl, rfl, h0, h1⟩ := trodAll_two hA
  obtain ⟨rfl, rfl⟩ := trodVars_none hV
  obtain ⟨a, ca, rfl, ha⟩ := arg_struct Try.underlying26 readsFlag (hval 0 26 v0 rfl rfl) h0
  obtain ⟨rfl, ha1⟩ := rep_flagV ha
  obtain ⟨b, cb, rfl, hb⟩ := arg_struct Try.underlying24 readsGr (hval 1 24 v1 rfl rfl) h1
  obtain ⟨rfl, hb1, hb2⟩ := rep_gr hb
  refine (wholeAverageDensity a b.1 b.2 W ha1 hb2).mono fun e W' ⟨he, hb⟩ => ?_
  exact ⟨_, he, law_post (f := Try.f3) (s := Rows.fnExactAverageDensitySpec) tryLaid (by kernel_rfl) rfl rfl Try.underlying4 hW' rfl hb⟩
theorem fnExactAverageDensity_holds : Rows.FnExactAverageDensitySaid :=
  OpenClaim.holds_of_wide 3 Try.f3 rfl rfl rfl rfl rfl rfl rfl ⟨rfl, rfl, rfl, rfl, rfl⟩ rfl rfl rfl rfl rfl (by kernel_rfl) Try.func3 (by kernel_rfl)
    (of_decide_eq_true (by kernel_rfl)) (by unfold Func.isWrapper; first | (rw [if_pos (by decide +kernel)]; kernel_rfl) | (rw [if_neg (by decide +kernel)]; exact ⟨rfl, rfl⟩))
    (fun os started H enc _ => fnExactAverageDensity_lifted os started H enc)
#print axioms fnExactAverageDensity_holds
end Go.Proofs.Ytkfjlimlodbcgaa

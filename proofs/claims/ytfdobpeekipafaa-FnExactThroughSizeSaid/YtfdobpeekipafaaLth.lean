/- ThroughSize returns what the reference returns: the law's row. -/
import Derived.Test.YtfdobpeekipafaaWThroughSize
import Derived.Test.YtfdobpeekipafaaTi
namespace Go.Proofs.Ytfdobpeekipafaa
open Go.ChangeShapes Go.WideShapes Go.ChangeAt Go.RowKit
set_option linter.unusedVariables false
set_option linter.unusedSimpArgs false
attribute [local irreducible] Calls
theorem rep_flagB {w : World} {d : shFlag.T} {cs : List Value} (h : shFlag.rep w d cs) : cs = [.int .i64 d.1, .int .i64 d.2.1, .int .u32 d.2.2] ∧ okFlag d := by
  obtain ⟨rfl, h2⟩ := (flatFlag.1 _ _ _).1 h
  exact ⟨rfl, h2⟩
theorem wholeThroughSize (f g : Flg) (s : Int) (w : World) (hf : okFlag f) (hg : okFlag g) :
    Calls Try.prog 5 #[.agg #[.int .i64 f.1, .int .i64 f.2.1, .int .u32 f.2.2], .agg #[.int .i64 g.1, .int .i64 g.2.1, .int .u32 g.2.2], .int .i64 s] w fun e0 w' => e0 = .returned (.bool true) ∧ Below w.heap.size w w' :=
  walkThroughSize f.1 f.2.1 f.2.2 g.1 g.2.1 g.2.2 s (thR f g s).1 (thR f g s).2 (thC f g s) (fun W => ThroughSize_any W f g s hf hg) (fun W => sThroughSize_any W f g s hf hg) w

set_option maxRecDepth 100000 in
theorem fnExactThroughSize_lifted (os : Os) (started : os.Started) (H : Type) (enc : TypeId × Value → H) :
    ReturnsInHanded {} Try.checked os 5 .any (Rows.fnExactThroughSizeSpec.pre6 enc Try.prog Try.f5 Rows.fnExactThroughSizeRow.domain false) (Rows.fnExactThroughSizeSpec.post enc Try.prog Try.f5 false true false false) := by
  refine returnsInHanded_of_change (C := Try.checked) tryOwn started (by kernel_rfl) Try.func5
    (ChangeSpec.witness6 (enc := enc) (C := Try.checked) false ⟨#[], #[.agg #[.int .i64 0, .int .i64 0, .int .u32 0], .agg #[.int .i64 0, .int .i64 0, .int .u32 0], .int .i64 0], []⟩ 8 (by kernel_rfl) (by kernel_rfl) (by kernel_rfl) (by kernel_rfl)) ?_
  intro W base args ds gs before hval0 hW hcnd _
  have hval : ∀ (j : Nat) t v, Try.f5.params[j]? = some t → args[j]? = some v → Value.okWide Try.prog W .any base t v := hval0
  have hW' := hW
  obtain ⟨p, q, hA0, hV, _, _, _⟩ := hW
  have hA : DataW.TrodAll enc Try.prog W 0 (fun _ => true) true Try.f5.params.toList args.toList ds p := hA0
  rw [Try.params5] at hA hval
  obtain ⟨v0, v1, v2, d0, d1, d2, p0, p1, p2, rfl, rfl, rfl, h0, h1, h2⟩ := trodAll_three hA
  obtain ⟨rfl, rfl⟩ := trodVars_none hV
  obtain ⟨a, ca, rfl, ha⟩ := arg_struct Try.underlying36 readsFlag (hval 0 36 v0 rfl rfl) h0
  obtain ⟨rfl, ha1⟩ := rep_flagB ha
  obtain ⟨b, cb, rfl, hb⟩ := arg_struct Try.underlying36 readsFlag (hval 1 36 v1 rfl rfl) h1
  obtain ⟨rfl, hb1⟩ := rep_flagB hb
  obtain ⟨s, rfl, hs⟩ := okWide_int Try.underlying2 (hval 2 2 v2 rfl rfl)
  refine (wholeThroughSize a b s W ha1 hb1).mono fun e W' ⟨he, hb⟩ => ?_
  exact ⟨_, he, law_post (f := Try.f5) (s := Rows.fnExactThroughSizeSpec) tryLaid (by kernel_rfl) rfl rfl Try.underlying4 hW' rfl hb⟩
theorem fnExactThroughSize_holds : Rows.FnExactThroughSizeSaid :=
  OpenClaim.holds_of_wide 5 Try.f5 rfl rfl rfl rfl rfl rfl rfl ⟨rfl, rfl, rfl, rfl, rfl⟩ rfl rfl rfl rfl rfl (by kernel_rfl) Try.func5 (by kernel_rfl)
    (of_decide_eq_true (by kernel_rfl)) (by unfold Func.isWrapper; first | (rw [if_pos (by decide +kernel)]; kernel_rfl) | (rw [if_neg (by decide +kernel)]; exact ⟨rfl, rfl⟩))
    (fun os started H enc _ => fnExactThroughSize_lifted os started H enc)
#print axioms fnExactThroughSize_holds
end Go.Proofs.Ytfdobpeekipafaa

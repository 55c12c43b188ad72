/- FarthestFlags returns what the reference returns: the law's row. -/
import Derived.Test.YtfdobpeekipafaaWFarthestFlags
import Derived.Test.YtfdobpeekipafaaFh
import Derived.Test.YtfdobpeekipafaaFi
namespace Go.Proofs.Ytfdobpeekipafaa
open Go.ChangeShapes Go.WideShapes Go.ChangeAt Go.RowKit
set_option linter.unusedVariables false
set_option linter.unusedSimpArgs false
attribute [local irreducible] Calls
theorem rep_flagC {w : World} {d : shFlag.T} {cs : List Value} (h : shFlag.rep w d cs) : cs = [.int .i64 d.1, .int .i64 d.2.1, .int .u32 d.2.2] ∧ okFlag d := by
  obtain ⟨rfl, h2⟩ := (flatFlag.1 _ _ _).1 h
  exact ⟨rfl, h2⟩
theorem wholeFarthestFlags (f g : Flg) (w : World) (hf : okFlag f) (hg : okFlag g) :
    Calls Try.prog 7 #[.agg #[.int .i64 f.1, .int .i64 f.2.1, .int .u32 f.2.2], .agg #[.int .i64 g.1, .int .i64 g.2.1, .int .u32 g.2.2]] w fun e0 w' => e0 = .returned (.bool true) ∧ Below w.heap.size w w' :=
  walkFarthestFlags f.1 f.2.1 f.2.2 g.1 g.2.1 g.2.2 (faR f g).1 (faR f g).2 (faC f g) (fun W => FarthestFlags_any W f g hf hg) (fun W => sFarthestFlags_any W f g hf hg) w

set_option maxRecDepth 100000 in
theorem fnExactFarthestFlags_lifted (os : Os) (started : os.Started) (H : Type) (enc : TypeId × Value → H) :
    ReturnsInHanded {} Try.checked os 7 .any (Rows.fnExactFarthestFlagsSpec.pre6 enc Try.prog Try.f7 Rows.fnExactFarthestFlagsRow.domain false) (Rows.fnExactFarthestFlagsSpec.post enc Try.prog Try.f7 false true false false) := by
  refine returnsInHanded_of_change (C := Try.checked) tryOwn started (by kernel_rfl) Try.func7
    (ChangeSpec.witness6 (enc := enc) (C := Try.checked) false ⟨#[], #[.agg #[.int .i64 0, .int .i64 0, .int .u32 0], .agg #[.int .i64 0, .int .i64 0, .int .u32 0]], []⟩ 8 (by kernel_rfl) (by kernel_rfl) (by kernel_rfl) (by kernel_rfl)) ?_
  intro W base args ds gs before hval0 hW hcnd _
  have hval : ∀ (j : Nat) t v, Try.f7.params[j]? = some t → args[j]? = some v → Value.okWide Try.prog W .any base t v := hval0
  have hW' := hW
  obtain ⟨p, q, hA0, hV, _, _, _⟩ := hW
  have hA : DataW.TrodAll enc Try.prog W 0 (fun _ => true) true Try.f7.params.toList args.toList ds p := hA0
  rw [Try.params7] at hA hval
  obtain ⟨v0, v1, d0, d1, p0, p1, rfl, rfl, rfl, h0, h1⟩ := trodAll_two hA
  obtain ⟨rfl, rfl⟩ := trodVars_none hV
  obtain ⟨a, ca, rfl, ha⟩ := arg_struct Try.underlying36 readsFlag (hval 0 36 v0 rfl rfl) h0
  obtain ⟨rfl, ha1⟩ := rep_flagC ha
  obtain ⟨b, cb, rfl, hb⟩ := arg_struct Try.underlying36 readsFlag (hval 1 36 v1 rfl rfl) h1
  obtain ⟨rfl, hb1⟩ := rep_flagC hb
  refine (wholeFarthestFlags a b W ha1 hb1).mono fun e W' ⟨he, hb⟩ => ?_
  exact ⟨_, he, law_post (f := Try.f7) (s := Rows.fnExactFarthestFlagsSpec) tryLaid (by kernel_rfl) rfl rfl Try.underlying4 hW' rfl hb⟩
theorem fnExactFarthestFlags_holds : Rows.FnExactFarthestFlagsSaid :=
  OpenClaim.holds_of_wide 7 Try.f7 rfl rfl rfl rfl rfl rfl rfl ⟨rfl, rfl, rfl, rfl, rfl⟩ rfl rfl rfl rfl rfl (by kernel_rfl) Try.func7 (by kernel_rfl)
    (of_decide_eq_true (by kernel_rfl)) (by unfold Func.isWrapper; first | (rw [if_pos (by decide +kernel)]; kernel_rfl) | (rw [if_neg (by decide +kernel)]; exact ⟨rfl, rfl⟩))
    (fun os started H enc _ => fnExactFarthestFlags_lifted os started H enc)
#print axioms fnExactFarthestFlags_holds
end Go.Proofs.Ytfdobpeekipafaa

/- FlagDensities returns what the reference returns: the law's row. -/
import Derived.Test.YtfdobpeekipafaaWFlagDensities
import Derived.Test.YtfdobpeekipafaaFe
namespace Go.Proofs.Ytfdobpeekipafaa
open Go.ChangeShapes Go.WideShapes Go.ChangeAt Go.RowKit
set_option linter.unusedVariables false
set_option linter.unusedSimpArgs false
attribute [local irreducible] Calls
theorem fdL_len (s k n e : Int) : (fdL s k n e).length ≤ 100000 := by
  by_cases hc : fdC s k n e = 0
  · have h0 : (flagsL k.toNat (onE e (seqI k.toNat)) s.toNat []).length ≤ 64 := by
      unfold fdC at hc
      split at hc
      · split at hc
        · split at hc
          · assumption
          · omega
        · omega
      · omega
    have h1 : (fdL s k n e).length = (flagsL k.toNat (onE e (seqI k.toNat)) s.toNat []).length := by
      unfold fdL
      rw [if_pos hc]
      exact (List.length_map _).trans (List.length_map _)
    omega
  · have : fdL s k n e = [] := by unfold fdL; rw [if_neg hc]
    rw [this]; simp
theorem wholeFlagDensities (s k n e : Int) (w : World) (he : 0 ≤ e ∧ e ≤ 4294967295) :
    Calls Try.prog 4 #[.int .i64 s, .agg #[.int .i64 k, .int .i64 n, .int .u32 e]] w fun e0 w' => e0 = .returned (.bool true) ∧ Below w.heap.size w w' :=
  walkFlagDensities s k n e (fdL s k n e) (fdC s k n e) (fdL_len s k n e) (fun W => FlagDensities_any W s k n e he) (fun W => sFlagDensities_any W s k n e he) w

set_option maxRecDepth 100000 in
theorem fnExactFlagDensities_lifted (os : Os) (started : os.Started) (H : Type) (enc : TypeId × Value → H) :
    ReturnsInHanded {} Try.checked os 4 .any (Rows.fnExactFlagDensitiesSpec.pre6 enc Try.prog Try.f4 Rows.fnExactFlagDensitiesRow.domain false) (Rows.fnExactFlagDensitiesSpec.post enc Try.prog Try.f4 false true false false) := by
  refine returnsInHanded_of_change (C := Try.checked) tryOwn started (by kernel_rfl) Try.func4
    (ChangeSpec.witness6 (enc := enc) (C := Try.checked) false ⟨#[], #[.int .i64 0, .agg #[.int .i64 0, .int .i64 0, .int .u32 0]], []⟩ 8 (by kernel_rfl) (by kernel_rfl) (by kernel_rfl) (by kernel_rfl)) ?_
  intro W base args ds gs before hval0 hW hcnd _
  have hval : ∀ (j : Nat) t v, Try.f4.params[j]? = some t → args[j]? = some v → Value.okWide Try.prog W .any base t v := hval0
  have hW' := hW
  obtain ⟨p, q, hA0, hV, _, _, _⟩ := hW
  have hA : DataW.TrodAll enc Try.prog W 0 (fun _ => true) true Try.f4.params.toList args.toList ds p := hA0
  rw [Try.params4] at hA hval
  obtain ⟨v0, v1, d0, d1, p0, p1, rfl, rfl, rfl, h0, h1⟩ := trodAll_two hA
  obtain ⟨rfl, rfl⟩ := trodVars_none hV
  obtain ⟨s, rfl, hs⟩ := okWide_int Try.underlying2 (hval 0 2 v0 rfl rfl)
  obtain ⟨b, cb, rfl, hb⟩ := arg_struct Try.underlying36 readsFlag (hval 1 36 v1 rfl rfl) h1
  obtain ⟨rfl, hb1, hb2, hb3⟩ := rep_flag hb
  refine (wholeFlagDensities s b.1 b.2.1 b.2.2 W hb3).mono fun e W' ⟨he, hb⟩ => ?_
  exact ⟨_, he, law_post (f := Try.f4) (s := Rows.fnExactFlagDensitiesSpec) tryLaid (by kernel_rfl) rfl rfl Try.underlying4 hW' rfl hb⟩
theorem fnExactFlagDensities_holds : Rows.FnExactFlagDensitiesSaid :=
  OpenClaim.holds_of_wide 4 Try.f4 rfl rfl rfl rfl rfl rfl rfl ⟨rfl, rfl, rfl, rfl, rfl⟩ rfl rfl rfl rfl rfl (by kernel_rfl) Try.func4 (by kernel_rfl)
    (of_decide_eq_true (by kernel_rfl)) (by unfold Func.isWrapper; first | (rw [if_pos (by decide +kernel)]; kernel_rfl) | (rw [if_neg (by decide +kernel)]; exact ⟨rfl, rfl⟩))
    (fun os started H enc _ => fnExactFlagDensities_lifted os started H enc)
#print axioms fnExactFlagDensities_holds
end Go.Proofs.Ytfdobpeekipafaa

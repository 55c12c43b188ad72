/- AllOnes returns what the reference returns: the law's row. -/
import Derived.Test.YtfdobpeekipafaaWAllOnes
import Derived.Test.YtfdobpeekipafaaAs
namespace Go.Proofs.Ytfdobpeekipafaa
open Go.ChangeShapes Go.WideShapes Go.ChangeAt Go.RowKit
set_option linter.unusedVariables false
set_option linter.unusedSimpArgs false
attribute [local irreducible] Calls
theorem aoL_len (tn te n : Int) : (aoL tn te n).length ≤ 100000 := by
  by_cases hc : aoC tn te n = 0
  · have h0 : (flagsL tn.toNat te n.toNat []).length ≤ 64 := by
      unfold aoC at hc
      split at hc
      · split at hc
        · assumption
        · omega
      · omega
    have : (aoL tn te n).length = (flagsL tn.toNat te n.toNat []).length := by
      unfold aoL tdL
      rw [if_pos hc]
      exact (List.length_map _).trans (List.length_map _)
    omega
  · have : aoL tn te n = [] := by unfold aoL tdL; rw [if_neg hc]
    rw [this]; simp
theorem wholeAllOnes (tn te n : Int) (w : World) (he : 0 ≤ te ∧ te ≤ 4294967295) :
    Calls Try.prog 3 #[.agg #[.int .i64 tn, .int .u32 te], .int .i64 n] w fun e0 w' => e0 = .returned (.bool true) ∧ Below w.heap.size w w' :=
  walkAllOnes tn te n (tdT (aoC tn te n) (tn, te)).1 (tdT (aoC tn te n) (tn, te)).2 (tdS (aoC tn te n) n) (aoL tn te n) (aoC tn te n) (aoL_len tn te n) (fun W => AllOnes_any tn te n W he) (fun W => sAllOnes_any tn te n W he) w

set_option maxRecDepth 100000 in
theorem fnExactAllOnes_lifted (os : Os) (started : os.Started) (H : Type) (enc : TypeId × Value → H) :
    ReturnsInHanded {} Try.checked os 3 .any (Rows.fnExactAllOnesSpec.pre6 enc Try.prog Try.f3 Rows.fnExactAllOnesRow.domain false) (Rows.fnExactAllOnesSpec.post enc Try.prog Try.f3 false true false false) := by
  refine returnsInHanded_of_change (C := Try.checked) tryOwn started (by kernel_rfl) Try.func3
    (ChangeSpec.witness6 (enc := enc) (C := Try.checked) false ⟨#[], #[.agg #[.int .i64 0, .int .u32 0], .int .i64 0], []⟩ 8 (by kernel_rfl) (by kernel_rfl) (by kernel_rfl) (by kernel_rfl)) ?_
  intro W base args ds gs before hval0 hW hcnd _
  have hval : ∀ (j : Nat) t v, Try.f3.params[j]? = some t → args[j]? = some v → Value.okWide Try.prog W .any base t v := hval0
  have hW' := hW
  obtain ⟨p, q, hA0, hV, _, _, _⟩ := hW
  have hA : DataW.TrodAll enc Try.prog W 0 (fun _ => true) true Try.f3.params.toList args.toList ds p := hA0
  rw [Try.params3] at hA hval
  obtain ⟨v0, v1, d0, d1, p0, p1, rfl, rfl, rfl, h0, h1⟩ := trodAll_two hA
  obtain ⟨rfl, rfl⟩ := trodVars_none hV
  obtain ⟨a, ca, rfl, ha⟩ := arg_struct Try.underlying24 readsGr (hval 0 24 v0 rfl rfl) h0
  obtain ⟨rfl, ha1, ha2⟩ := rep_gr ha
  obtain ⟨s, rfl, hs⟩ := okWide_int Try.underlying2 (hval 1 2 v1 rfl rfl)
  refine (wholeAllOnes a.1 a.2 s W ha2).mono fun e W' ⟨he, hb⟩ => ?_
  exact ⟨_, he, law_post (f := Try.f3) (s := Rows.fnExactAllOnesSpec) tryLaid (by kernel_rfl) rfl rfl Try.underlying4 hW' rfl hb⟩
theorem fnExactAllOnes_holds : Rows.FnExactAllOnesSaid :=
  OpenClaim.holds_of_wide 3 Try.f3 rfl rfl rfl rfl rfl rfl rfl ⟨rfl, rfl, rfl, rfl, rfl⟩ rfl rfl rfl rfl rfl (by kernel_rfl) Try.func3 (by kernel_rfl)
    (of_decide_eq_true (by kernel_rfl)) (by unfold Func.isWrapper; first | (rw [if_pos (by decide +kernel)]; kernel_rfl) | (rw [if_neg (by decide +kernel)]; exact ⟨rfl, rfl⟩))
    (fun os started H enc _ => fnExactAllOnes_lifted os started H enc)
#print axioms fnExactAllOnes_holds
end Go.Proofs.Ytfdobpeekipafaa

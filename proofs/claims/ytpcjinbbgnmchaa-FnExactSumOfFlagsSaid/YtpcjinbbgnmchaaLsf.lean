/- SumOfFlags returns what the reference returns: the law's row. -/
import Derived.Test.YtpcjinbbgnmchaaWSumOfFlags
import Derived.Test.YtpcjinbbgnmchaaIf
namespace Go.Proofs.Ytpcjinbbgnmchaa
open Go.ChangeShapes Go.WideShapes Go.ChangeAt Go.RowKit
set_option linter.unusedVariables false
set_option linter.unusedSimpArgs false
attribute [local irreducible] Calls
def sfL (tn te s : Int) (T : List Trm) : List Trm := tdL (sfC tn te s T) (nzT (fI (lsT T)).2)
theorem sfL_len (tn te s : Int) (T : List Trm) : (sfL tn te s T).length ≤ 100000 := by
  unfold sfL
  by_cases hc : sfC tn te s T = 0
  · rw [hc]
    show (nzB _).length ≤ 100000
    unfold sfC at hc
    split at hc
    · omega
    · split at hc
      · split at hc
        · omega
        · unfold tdC at hc
          split at hc
          · omega
          · split at hc
            · rename_i h
              exact Nat.le_trans h (by omega)
            · omega
      · rename_i h
        exact absurd hc h
  · have e : tdL (sfC tn te s T) (nzT (fI (lsT T)).2) = [] := if_neg hc
    rw [e]
    exact Nat.zero_le _
theorem wholeSumOfFlags (tn te s : Int) (T : List Trm) (v : Value) (w : World) (h : Lst shTerm w T v) (he : 0 ≤ te ∧ te ≤ 4294967295) :
    Calls Try.prog 4 #[.agg #[.int .i64 tn, .int .u32 te], .int .i64 s, v] w fun e0 w' => e0 = .returned (.bool true) ∧ Below w.heap.size w w' :=
  walkSumOfFlags tn te s T v (tdT (sfC tn te s T) (tn, te)).1 (tdT (sfC tn te s T) (tn, te)).2 (tdS (sfC tn te s T) s) (sfL tn te s T) (sfC tn te s T) (sfL_len tn te s T) (fun W u0 g0 l0 => SumOfFlags_any W tn te s T u0 g0 he l0) (fun W u0 g0 l0 => sSumOfFlags_any W tn te s T u0 g0 he l0) w h

set_option maxRecDepth 100000 in
theorem fnExactSumOfFlags_lifted (os : Os) (started : os.Started) (H : Type) (enc : TypeId × Value → H) :
    ReturnsInHanded {} Try.checked os 4 .any (Rows.fnExactSumOfFlagsSpec.pre6 enc Try.prog Try.f4 Rows.fnExactSumOfFlagsRow.domain false) (Rows.fnExactSumOfFlagsSpec.post enc Try.prog Try.f4 false true false false) := by
  refine returnsInHanded_of_change (C := Try.checked) tryOwn started (by kernel_rfl) Try.func4
    (ChangeSpec.witness6 (enc := enc) (C := Try.checked) false ⟨#[], #[.agg #[.int .i64 0, .int .u32 0], .int .i64 0, .slice none 0 0], []⟩ 8 (by kernel_rfl) (by kernel_rfl) (by kernel_rfl) (by kernel_rfl)) ?_
  intro W base args ds gs before hval0 hW hcnd _
  have hval : ∀ (j : Nat) t v, Try.f4.params[j]? = some t → args[j]? = some v → Value.okWide Try.prog W .any base t v := hval0
  have hW' := hW
  obtain ⟨p, q, hA0, hV, _, _, _⟩ := hW
  have hA : DataW.TrodAll enc Try.prog W 0 (fun _ => true) true Try.f4.params.toList args.toList ds p := hA0
  rw [Try.params4] at hA hval
  obtain ⟨v0, v1, v2, d0, d1, d2, p0, p1, p2, rfl, rfl, rfl, h0, h1, h2⟩ := trodAll_three hA
  obtain ⟨rfl, rfl⟩ := trodVars_none hV
  obtain ⟨a, ca, rfl, ha⟩ := arg_struct Try.underlying24 readsGr (hval 0 24 v0 rfl rfl) h0
  obtain ⟨rfl, ha1, ha2⟩ := rep_gr ha
  obtain ⟨s, rfl, hs⟩ := okWide_int Try.underlying2 (hval 1 2 v1 rfl rfl)
  obtain ⟨b, hb⟩ := arg_slice Try.underlying25 readsTermS (hval 2 25 v2 rfl rfl) h2
  refine (wholeSumOfFlags a.1 a.2 s b v2 W hb ha2).mono fun e W' ⟨he, hb⟩ => ?_
  exact ⟨_, he, law_post (f := Try.f4) (s := Rows.fnExactSumOfFlagsSpec) tryLaid (by kernel_rfl) rfl rfl Try.underlying4 hW' rfl hb⟩
theorem fnExactSumOfFlags_holds : Rows.FnExactSumOfFlagsSaid :=
  OpenClaim.holds_of_wide 4 Try.f4 rfl rfl rfl rfl rfl rfl rfl ⟨rfl, rfl, rfl, rfl, rfl⟩ rfl rfl rfl rfl rfl (by kernel_rfl) Try.func4 (by kernel_rfl)
    (of_decide_eq_true (by kernel_rfl)) (by unfold Func.isWrapper; first | (rw [if_pos (by decide +kernel)]; kernel_rfl) | (rw [if_neg (by decide +kernel)]; exact ⟨rfl, rfl⟩))
    (fun os started H enc _ => fnExactSumOfFlags_lifted os started H enc)
#print axioms fnExactSumOfFlags_holds
end Go.Proofs.Ytpcjinbbgnmchaa

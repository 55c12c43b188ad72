/- AverageSum returns what the reference returns: the law's row. -/
import Derived.Test.YtpcjinbbgnmchaaGreatWAverageSum
import Derived.Test.YtpcjinbbgnmchaaGreatKe
namespace Go.Proofs.YtpcjinbbgnmchaaGreat
open Go.ChangeShapes Go.WideShapes Go.ChangeAt Go.RowKit
set_option linter.unusedVariables false
set_option linter.unusedSimpArgs false
attribute [local irreducible] Calls
theorem rep_sumB {w : World} {d : shSum.T} {cs : List Value} (h : shSum.rep w d cs) : ∃ v, cs = [.int .i64 d.1.1, .int .u32 d.1.2, .int .i64 d.2.1, v] ∧ Lst shTerm w d.2.2 v ∧ (0 ≤ d.1.2 ∧ d.1.2 ≤ 4294967295) := by
  obtain ⟨v, h1, h2⟩ := rep_sum h
  obtain ⟨c1, c2, _, h3, _⟩ := h
  exact ⟨v, h1, h2, (rep_gr h3).2.2⟩
theorem tdC_len {g : Bool} {xs : List Trm} (h : tdC g xs = 0) : (nzB xs).length ≤ 64 := by
  unfold tdC at h
  split at h
  · omega
  · split at h
    · assumption
    · omega
theorem agL_len (tn te s : Int) (T : List Trm) : (agL tn te s T).length ≤ 100000 := by
  unfold agL
  by_cases hc : agC tn te s T = 0
  · rw [hc]
    show (nzB _).length ≤ 100000
    unfold agC at hc
    split at hc
    · exact Nat.le_trans (tdC_len hc) (by omega)
    · omega
  · have e : tdL (agC tn te s T) (nzT (fI (avX T)).2) = [] := if_neg hc
    rw [e]
    exact Nat.zero_le _
theorem wholeAverageSum (tn te s : Int) (T : List Trm) (v : Value) (w : World) (h : Lst shTerm w T v) (he : 0 ≤ te ∧ te ≤ 4294967295) :
    Calls Tryz.prog 7 #[.agg #[.int .i64 tn, .int .u32 te, .int .i64 s, v]] w fun e0 w' => e0 = .returned (.bool true) ∧ Below w.heap.size w w' :=
  walkAverageSum tn te s T v (tdT (agC tn te s T) (0, 0)).1 (tdT (agC tn te s T) (0, 0)).2 (tdS (agC tn te s T) s) (agL tn te s T) (agC tn te s T) (agL_len tn te s T) (fun W u0 g0 l0 => AverageSum_any W tn te s T u0 g0 he) (fun W u0 g0 l0 => sAverageSum_any W tn te s T u0 g0 he) w h

set_option maxRecDepth 100000 in
theorem fnExactAverageSum_lifted (os : Os) (started : os.Started) (H : Type) (enc : TypeId × Value → H) :
    ReturnsInHanded {} Tryz.checked os 7 .any (Rows.fnExactAverageSumSpec.pre6 enc Tryz.prog Tryz.f7 Rows.fnExactAverageSumRow.domain false) (Rows.fnExactAverageSumSpec.post enc Tryz.prog Tryz.f7 false true false false) := by
  refine returnsInHanded_of_change (C := Tryz.checked) tryOwn started (by kernel_rfl) Tryz.func7
    (ChangeSpec.witness6 (enc := enc) (C := Tryz.checked) false ⟨#[], #[.agg #[.int .i64 0, .int .u32 0, .int .i64 0, .slice none 0 0]], []⟩ 8 (by kernel_rfl) (by kernel_rfl) (by kernel_rfl) (by kernel_rfl)) ?_
  intro W base args ds gs before hval0 hW hcnd _
  have hval : ∀ (j : Nat) t v, Tryz.f7.params[j]? = some t → args[j]? = some v → Value.okWide Tryz.prog W .any base t v := hval0
  have hW' := hW
  obtain ⟨p, q, hA0, hV, _, _, _⟩ := hW
  have hA : DataW.TrodAll enc Tryz.prog W 0 (fun _ => true) true Tryz.f7.params.toList args.toList ds p := hA0
  rw [Tryz.params7] at hA hval
  obtain ⟨v0, d0, rfl, rfl, h0⟩ := trodAll_one hA
  obtain ⟨rfl, rfl⟩ := trodVars_none hV
  obtain ⟨a, ca, rfl, ha⟩ := arg_struct Tryz.underlying27 readsSum (hval 0 27 v0 rfl rfl) h0
  obtain ⟨x1, rfl, hx1, he1⟩ := rep_sumB ha
  refine (wholeAverageSum a.1.1 a.1.2 a.2.1 a.2.2 x1 W hx1 he1).mono fun e W' ⟨he, hb⟩ => ?_
  exact ⟨_, he, law_post (f := Tryz.f7) (s := Rows.fnExactAverageSumSpec) tryLaid (by kernel_rfl) rfl rfl Tryz.underlying4 hW' rfl hb⟩
theorem fnExactAverageSum_holds : Rows.FnExactAverageSumSaid :=
  OpenClaim.holds_of_wide 7 Tryz.f7 rfl rfl rfl rfl rfl rfl rfl ⟨rfl, rfl, rfl, rfl, rfl⟩ rfl rfl rfl rfl rfl (by kernel_rfl) Tryz.func7 (by kernel_rfl)
    (of_decide_eq_true (by kernel_rfl)) (by unfold Func.isWrapper; first | (rw [if_pos (by decide +kernel)]; kernel_rfl) | (rw [if_neg (by decide +kernel)]; exact ⟨rfl, rfl⟩))
    (fun os started H enc _ => fnExactAverageSum_lifted os started H enc)
#print axioms fnExactAverageSum_holds
end Go.Proofs.YtpcjinbbgnmchaaGreat

/- RaiseSum returns what the reference returns: the law's row. -/
import Derived.Test.YtdblmdedfnmbpaaGreatWRaiseSum
import Derived.Test.YtdblmdedfnmbpaaGreatRc
namespace Go.Proofs.YtdblmdedfnmbpaaGreat
open Go.ChangeShapes Go.WideShapes Go.ChangeAt Go.RowKit
set_option linter.unusedVariables false
set_option linter.unusedSimpArgs false
attribute [local irreducible] Calls
theorem rep_sumB {w : World} {d : shSum.T} {cs : List Value} (h : shSum.rep w d cs) : ∃ v, cs = [.int .i64 d.1.1, .int .u32 d.1.2, .int .i64 d.2.1, v] ∧ Lst shTerm w d.2.2 v ∧ (0 ≤ d.1.2 ∧ d.1.2 ≤ 4294967295) := by
  obtain ⟨v, h1, h2⟩ := rep_sum h
  obtain ⟨c1, c2, _, h3, _⟩ := h
  exact ⟨v, h1, h2, (rep_gr h3).2.2⟩
theorem rsR_len (tn te s : Int) (T : List Trm) (n : Int) : (rsL tn te s T n).length ≤ 100000 := by
  unfold rsL
  by_cases hc : rsC tn te s T n = 0
  · rw [hc]
    show (nzB _).length ≤ 100000
    have hC : ovC tn.toNat te n.toNat (rsD T) (rsZ T) = 0 := by
      unfold rsC at hc
      split at hc
      · split at hc
        · exact hc
        · omega
      · omega
    have h3 : (flagsL tn.toNat te n.toNat []).length ≤ 64 := by
      unfold ovC at hC
      split at hC
      · assumption
      · omega
    refine Nat.le_trans (List.length_filter_le _ _) ?_
    have h4 : (ovB (flagsF tn.toNat te n.toNat []) (rsD T)).length ≤ 64 := by
      rw [ovB_len]
      exact Nat.le_trans (Nat.le_of_eq (List.length_map _)) h3
    exact Nat.le_trans h4 (by omega)
  · have e : tdL (rsC tn te s T n) (nzT (ovX (flagsF tn.toNat te n.toNat []) (rsD T))) = [] := if_neg hc
    rw [e]
    exact Nat.zero_le _
theorem wholeRaiseSum (tn te s : Int) (T : List Trm) (n : Int) (v : Value) (w : World) (h : Lst shTerm w T v) (he : 0 ≤ te ∧ te ≤ 4294967295) :
    Calls Tryz.prog 3 #[.agg #[.int .i64 tn, .int .u32 te, .int .i64 s, v], .int .i64 n] w fun e0 w' => e0 = .returned (.bool true) ∧ Below w.heap.size w w' :=
  walkRaiseSum tn te s T v n (tdT (rsC tn te s T n) (tn, te)).1 (tdT (rsC tn te s T n) (tn, te)).2 (tdS (rsC tn te s T n) n) (rsL tn te s T n) (rsC tn te s T n) (rsR_len tn te s T n) (fun W u0 g0 l0 => RaiseSum_any W tn te s T u0 n g0 he) (fun W u0 g0 l0 => sRaiseSum_any W tn te s T u0 n g0 he) w h

set_option maxRecDepth 100000 in
theorem fnExactRaiseSum_lifted (os : Os) (started : os.Started) (H : Type) (enc : TypeId × Value → H) :
    ReturnsInHanded {} Tryz.checked os 3 .any (Rows.fnExactRaiseSumSpec.pre6 enc Tryz.prog Tryz.f3 Rows.fnExactRaiseSumRow.domain false) (Rows.fnExactRaiseSumSpec.post enc Tryz.prog Tryz.f3 false true false false) := by
  refine returnsInHanded_of_change (C := Tryz.checked) tryOwn started (by kernel_rfl) Tryz.func3
    (ChangeSpec.witness6 (enc := enc) (C := Tryz.checked) false ⟨#[], #[.agg #[.int .i64 0, .int .u32 0, .int .i64 0, .slice none 0 0], .int .i64 0], []⟩ 8 (by kernel_rfl) (by kernel_rfl) (by kernel_rfl) (by kernel_rfl)) ?_
  intro W base args ds gs before hval0 hW hcnd _
  have hval : ∀ (j : Nat) t v, Tryz.f3.params[j]? = some t → args[j]? = some v → Value.okWide Tryz.prog W .any base t v := hval0
  have hW' := hW
  obtain ⟨p, q, hA0, hV, _, _, _⟩ := hW
  have hA : DataW.TrodAll enc Tryz.prog W 0 (fun _ => true) true Tryz.f3.params.toList args.toList ds p := hA0
  rw [Tryz.params3] at hA hval
  obtain ⟨v0, v1, d0, d1, p0, p1, rfl, rfl, rfl, h0, h1⟩ := trodAll_two hA
  obtain ⟨rfl, rfl⟩ := trodVars_none hV
  obtain ⟨a, ca, rfl, ha⟩ := arg_struct Tryz.underlying27 readsSum (hval 0 27 v0 rfl rfl) h0
  obtain ⟨x1, rfl, hx1, he1⟩ := rep_sumB ha
  obtain ⟨s, rfl, hs⟩ := okWide_int Tryz.underlying2 (hval 1 2 v1 rfl rfl)
  refine (wholeRaiseSum a.1.1 a.1.2 a.2.1 a.2.2 s x1 W hx1 he1).mono fun e W' ⟨he, hb⟩ => ?_
  exact ⟨_, he, law_post (f := Tryz.f3) (s := Rows.fnExactRaiseSumSpec) tryLaid (by kernel_rfl) rfl rfl Tryz.underlying4 hW' rfl hb⟩
theorem fnExactRaiseSum_holds : Rows.FnExactRaiseSumSaid :=
  OpenClaim.holds_of_wide 3 Tryz.f3 rfl rfl rfl rfl rfl rfl rfl ⟨rfl, rfl, rfl, rfl, rfl⟩ rfl rfl rfl rfl rfl (by kernel_rfl) Tryz.func3 (by kernel_rfl)
    (of_decide_eq_true (by kernel_rfl)) (by unfold Func.isWrapper; first | (rw [if_pos (by decide +kernel)]; kernel_rfl) | (rw [if_neg (by decide +kernel)]; exact ⟨rfl, rfl⟩))
    (fun os started H enc _ => fnExactRaiseSum_lifted os started H enc)
#print axioms fnExactRaiseSum_holds
end Go.Proofs.YtdblmdedfnmbpaaGreat

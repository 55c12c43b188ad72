/- ScaleSum returns what the reference returns: the law's row. -/
import Derived.Test.YtpcjinbbgnmchaaWScaleSum
import Derived.Test.YtpcjinbbgnmchaaSe2
import Derived.Test.YtpcjinbbgnmchaaLc
namespace Go.Proofs.Ytpcjinbbgnmchaa
open Go.ChangeShapes Go.WideShapes Go.ChangeAt Go.RowKit
set_option linter.unusedVariables false
set_option linter.unusedSimpArgs false
attribute [local irreducible] Calls
theorem rep_sumB {w : World} {d : shSum.T} {cs : List Value} (h : shSum.rep w d cs) : ∃ v, cs = [.int .i64 d.1.1, .int .u32 d.1.2, .int .i64 d.2.1, v] ∧ Lst shTerm w d.2.2 v ∧ (0 ≤ d.1.2 ∧ d.1.2 ≤ 4294967295) := by
  obtain ⟨v, h1, h2⟩ := rep_sum h
  obtain ⟨c1, c2, _, h3, _⟩ := h
  exact ⟨v, h1, h2, (rep_gr h3).2.2⟩
theorem rep_frB {w : World} {d : shFr.T} {cs : List Value} (h : shFr.rep w d cs) : cs = [.int .i64 d.1, .int .i64 d.2] ∧ okFr d := by
  obtain ⟨h1, h2, h3⟩ := rep_fr h
  exact ⟨h1, (flatFr.1 _ _ _).1 h |>.2⟩
def skL (tn te s : Int) (T : List Trm) (q : Int × Int) : List Trm := tdL (skC tn te s T q) (nzT (scX T q))
theorem skL_len (tn te s : Int) (T : List Trm) (q : Int × Int) : (skL tn te s T q).length ≤ 100000 := by
  unfold skL
  by_cases hc : skC tn te s T q = 0
  · rw [hc]
    show (nzB _).length ≤ 100000
    unfold skC at hc
    split at hc
    · unfold scC tdC at hc
      split at hc
      · omega
      · split at hc
        · rename_i h
          exact Nat.le_trans h (by omega)
        · omega
    · omega
  · have e : tdL (skC tn te s T q) (nzT (scX T q)) = [] := if_neg hc
    rw [e]
    exact Nat.zero_le _
theorem wholeScaleSum (tn te s : Int) (T : List Trm) (q : Int × Int) (v : Value) (w : World) (h : Lst shTerm w T v) (he : 0 ≤ te ∧ te ≤ 4294967295) (hq : okFr q) :
    Calls Try.prog 3 #[.agg #[.int .i64 tn, .int .u32 te, .int .i64 s, v], .agg #[.int .i64 q.1, .int .i64 q.2]] w fun e0 w' => e0 = .returned (.bool true) ∧ Below w.heap.size w w' :=
  walkScaleSum tn te s T v q.1 q.2 (tdT (skC tn te s T q) (tn, te)).1 (tdT (skC tn te s T q) (tn, te)).2 (tdS (skC tn te s T q) s) (skL tn te s T q) (skC tn te s T q) (skL_len tn te s T q) (fun W u0 g0 l0 => ScaleSum_any W tn te s T u0 q g0 he hq) (fun W u0 g0 l0 => sScaleSum_any W tn te s T u0 q g0 he hq) w h

set_option maxRecDepth 100000 in
theorem fnExactScaleSum_lifted (os : Os) (started : os.Started) (H : Type) (enc : TypeId × Value → H) :
    ReturnsInHanded {} Try.checked os 3 .any (Rows.fnExactScaleSumSpec.pre6 enc Try.prog Try.f3 Rows.fnExactScaleSumRow.domain false) (Rows.fnExactScaleSumSpec.post enc Try.prog Try.f3 false true false false) := by
  refine returnsInHanded_of_change (C := Try.checked) tryOwn started (by kernel_rfl) Try.func3
    (ChangeSpec.witness6 (enc := enc) (C := Try.checked) false ⟨#[], #[.agg #[.int .i64 0, .int .u32 0, .int .i64 0, .slice none 0 0], .agg #[.int .i64 0, .int .i64 0]], []⟩ 8 (by kernel_rfl) (by kernel_rfl) (by kernel_rfl) (by kernel_rfl)) ?_
  intro W base args ds gs before hval0 hW hcnd _
  have hval : ∀ (j : Nat) t v, Try.f3.params[j]? = some t → args[j]? = some v → Value.okWide Try.prog W .any base t v := hval0
  have hW' := hW
  obtain ⟨p, q, hA0, hV, _, _, _⟩ := hW
  have hA : DataW.TrodAll enc Try.prog W 0 (fun _ => true) true Try.f3.params.toList args.toList ds p := hA0
  rw [Try.params3] at hA hval
  obtain ⟨v0, v1, d0, d1, p0, p1, rfl, rfl, rfl, h0, h1⟩ := trodAll_two hA
  obtain ⟨rfl, rfl⟩ := trodVars_none hV
  obtain ⟨a, ca, rfl, ha⟩ := arg_struct Try.underlying27 readsSum (hval 0 27 v0 rfl rfl) h0
  obtain ⟨x1, rfl, hx1, he1⟩ := rep_sumB ha
  obtain ⟨b, cb, rfl, hb⟩ := arg_struct Try.underlying29 readsFrL (hval 1 29 v1 rfl rfl) h1
  obtain ⟨rfl, hb1⟩ := rep_frB hb
  refine (wholeScaleSum a.1.1 a.1.2 a.2.1 a.2.2 b x1 W hx1 he1 hb1).mono fun e W' ⟨he, hb⟩ => ?_
  exact ⟨_, he, law_post (f := Try.f3) (s := Rows.fnExactScaleSumSpec) tryLaid (by kernel_rfl) rfl rfl Try.underlying4 hW' rfl hb⟩
theorem fnExactScaleSum_holds : Rows.FnExactScaleSumSaid :=
  OpenClaim.holds_of_wide 3 Try.f3 rfl rfl rfl rfl rfl rfl rfl ⟨rfl, rfl, rfl, rfl, rfl⟩ rfl rfl rfl rfl rfl (by kernel_rfl) Try.func3 (by kernel_rfl)
    (of_decide_eq_true (by kernel_rfl)) (by unfold Func.isWrapper; first | (rw [if_pos (by decide +kernel)]; kernel_rfl) | (rw [if_neg (by decide +kernel)]; exact ⟨rfl, rfl⟩))
    (fun os started H enc _ => fnExactScaleSum_lifted os started H enc)
#print axioms fnExactScaleSum_holds
end Go.Proofs.Ytpcjinbbgnmchaa

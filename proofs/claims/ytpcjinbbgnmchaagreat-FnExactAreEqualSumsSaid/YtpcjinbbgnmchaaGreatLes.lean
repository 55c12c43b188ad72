/- AreEqualSums returns what the reference returns: the law's row. -/
import Derived.Test.YtpcjinbbgnmchaaGreatWAreEqualSums
import Derived.Test.YtpcjinbbgnmchaaGreatEb
namespace Go.Proofs.YtpcjinbbgnmchaaGreat
open Go.ChangeShapes Go.WideShapes Go.ChangeAt Go.RowKit
set_option linter.unusedVariables false
set_option linter.unusedSimpArgs false
attribute [local irreducible] Calls
theorem rep_sumB {w : World} {d : shSum.T} {cs : List Value} (h : shSum.rep w d cs) : ∃ v, cs = [.int .i64 d.1.1, .int .u32 d.1.2, .int .i64 d.2.1, v] ∧ Lst shTerm w d.2.2 v ∧ (0 ≤ d.1.2 ∧ d.1.2 ≤ 4294967295) := by
  obtain ⟨v, h1, h2⟩ := rep_sum h
  obtain ⟨c1, c2, _, h3, _⟩ := h
  exact ⟨v, h1, h2, (rep_gr h3).2.2⟩
theorem wholeAreEqualSums (tn te s : Int) (T : List Trm) (tn' te' s' : Int) (U : List Trm) (v u : Value) (w : World) (h : Lst shTerm w T v) (he : 0 ≤ te ∧ te ≤ 4294967295) (h' : Lst shTerm w U u) (he' : 0 ≤ te' ∧ te' ≤ 4294967295) :
    Calls Tryz.prog 3 #[.agg #[.int .i64 tn, .int .u32 te, .int .i64 s, v], .agg #[.int .i64 tn', .int .u32 te', .int .i64 s', u]] w fun e0 w' => e0 = .returned (.bool true) ∧ Below w.heap.size w w' :=
  walkAreEqualSums tn te s T v tn' te' s' U u (aeB tn te s T tn' te' s' U) (aeC tn te s T tn' te' s' U) (fun W u0 u1 g0 g1 l0 l1 => AreEqualSums_any W tn te s T u0 tn' te' s' U u1 g0 g1 he he') (fun W u0 u1 g0 g1 l0 l1 => sAreEqualSums_any W tn te s T u0 tn' te' s' U u1 g0 g1 he he') w h h'

set_option maxRecDepth 100000 in
theorem fnExactAreEqualSums_lifted (os : Os) (started : os.Started) (H : Type) (enc : TypeId × Value → H) :
    ReturnsInHanded {} Tryz.checked os 3 .any (Rows.fnExactAreEqualSumsSpec.pre6 enc Tryz.prog Tryz.f3 Rows.fnExactAreEqualSumsRow.domain false) (Rows.fnExactAreEqualSumsSpec.post enc Tryz.prog Tryz.f3 false true false false) := by
  refine returnsInHanded_of_change (C := Tryz.checked) tryOwn started (by kernel_rfl) Tryz.func3
    (ChangeSpec.witness6 (enc := enc) (C := Tryz.checked) false ⟨#[], #[.agg #[.int .i64 0, .int .u32 0, .int .i64 0, .slice none 0 0], .agg #[.int .i64 0, .int .u32 0, .int .i64 0, .slice none 0 0]], []⟩ 8 (by kernel_rfl) (by kernel_rfl) (by kernel_rfl) (by kernel_rfl)) ?_
  intro W base args ds gs before hval0 hW hcnd _
  have hval : ∀ (j : Nat) t v, Tryz.f3.params[j]? = some t → args[j]? = some v → Value.okWide Tryz.prog W .any base t v := hval0
  have hW' := hW
  obtain ⟨p, q, hA0, hV, _, _, _⟩ := hW
  have hA : DataW.TrodAll enc Tryz.prog W 0 (fun _ => true) true Tryz.f3.params.toList args.toList ds p := hA0
  rw [Tryz.params3] at hA hval
  obtain ⟨v0, v1, d0, d1, p0, p1, rfl, rfl, rfl, h0, h1⟩ := trodAll_two hA
  obtain ⟨rfl, rfl⟩ := trodVars_none hV
  obtain ⟨a, ca, rfl, ha⟩ := arg_struct Tryz.underlying27 readsSum (hval 0 27 v0 rfl rfl) h0
  obtain ⟨x1, rfl, hx1, he1⟩ := rep_sumB ha
  obtain ⟨b, cb, rfl, hb⟩ := arg_struct Tryz.underlying27 readsSum (hval 1 27 v1 rfl rfl) h1
  obtain ⟨x2, rfl, hx2, he2⟩ := rep_sumB hb
  refine (wholeAreEqualSums a.1.1 a.1.2 a.2.1 a.2.2 b.1.1 b.1.2 b.2.1 b.2.2 x1 x2 W hx1 he1 hx2 he2).mono fun e W' ⟨he, hb⟩ => ?_
  exact ⟨_, he, law_post (f := Tryz.f3) (s := Rows.fnExactAreEqualSumsSpec) tryLaid (by kernel_rfl) rfl rfl Tryz.underlying4 hW' rfl hb⟩
theorem fnExactAreEqualSums_holds : Rows.FnExactAreEqualSumsSaid :=
  OpenClaim.holds_of_wide 3 Tryz.f3 rfl rfl rfl rfl rfl rfl rfl ⟨rfl, rfl, rfl, rfl, rfl⟩ rfl rfl rfl rfl rfl (by kernel_rfl) Tryz.func3 (by kernel_rfl)
    (of_decide_eq_true (by kernel_rfl)) (by unfold Func.isWrapper; first | (rw [if_pos (by decide +kernel)]; kernel_rfl) | (rw [if_neg (by decide +kernel)]; exact ⟨rfl, rfl⟩))
    (fun os started H enc _ => fnExactAreEqualSums_lifted os started H enc)
#print axioms fnExactAreEqualSums_holds
end Go.Proofs.YtpcjinbbgnmchaaGreat

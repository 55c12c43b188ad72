/- LeastValue returns what the reference returns: the law's row. -/
import Derived.Test.YtkfjlimlodbcgaaGreatWLeastValue
import Derived.Test.YtkfjlimlodbcgaaGreatYb
import Derived.Test.YtkfjlimlodbcgaaGreatYc
namespace Go.Proofs.YtkfjlimlodbcgaaGreat
open Go.ChangeShapes Go.WideShapes Go.ChangeAt Go.RowKit
set_option linter.unusedVariables false
set_option linter.unusedSimpArgs false
attribute [local irreducible] Calls
theorem rep_sumB {w : World} {d : shSum.T} {cs : List Value} (h : shSum.rep w d cs) : ∃ v, cs = [.int .i64 d.1.1, .int .u32 d.1.2, .int .i64 d.2.1, v] ∧ Lst shTerm w d.2.2 v ∧ (0 ≤ d.1.2 ∧ d.1.2 ≤ 4294967295) := by
  obtain ⟨v, h1, h2⟩ := rep_sum h
  obtain ⟨c1, c2, _, h3, _⟩ := h
  exact ⟨v, h1, h2, (rep_gr h3).2.2⟩
theorem wholeLeastValue (tn te s : Int) (xs : List Trm) (gs : List (Int × Int)) (v gv : Value) (w : World) (h : Lst shTerm w xs v) (he : 0 ≤ te ∧ te ≤ 4294967295) (hg : Lst shGr w gs gv) :
    Calls Tryz.prog 3 #[.agg #[.int .i64 tn, .int .u32 te, .int .i64 s, v], gv] w fun e0 w' => e0 = .returned (.bool true) ∧ Below w.heap.size w w' :=
  walkLeastValue tn te s xs v gs gv (lvR tn te s xs gs).1.1 (lvR tn te s xs gs).1.2 (lvR tn te s xs gs).2.1 (lvR tn te s xs gs).2.2.1 (lvR tn te s xs gs).2.2.2 (lvC tn te s xs gs) (fun W u0 u1 g0 g1 l0 l1 => LeastValue_any W tn te s xs gs u0 u1 g0 g1 he l1) (fun W u0 u1 g0 g1 l0 l1 => sLeastValue_any W tn te s xs gs u0 u1 g0 g1 he) w h hg

set_option maxRecDepth 100000 in
theorem fnExactLeastValue_lifted (os : Os) (started : os.Started) (H : Type) (enc : TypeId × Value → H) :
    ReturnsInHanded {} Tryz.checked os 3 .any (Rows.fnExactLeastValueSpec.pre6 enc Tryz.prog Tryz.f3 Rows.fnExactLeastValueRow.domain false) (Rows.fnExactLeastValueSpec.post enc Tryz.prog Tryz.f3 false true false false) := by
  refine returnsInHanded_of_change (C := Tryz.checked) tryOwn started (by kernel_rfl) Tryz.func3
    (ChangeSpec.witness6 (enc := enc) (C := Tryz.checked) false ⟨#[], #[.agg #[.int .i64 0, .int .u32 0, .int .i64 0, .slice none 0 0], .slice none 0 0], []⟩ 8 (by kernel_rfl) (by kernel_rfl) (by kernel_rfl) (by kernel_rfl)) ?_
  intro W base args ds gs before hval0 hW hcnd _
  have hval : ∀ (j : Nat) t v, Tryz.f3.params[j]? = some t → args[j]? = some v → Value.okWide Tryz.prog W .any base t v := hval0
  have hW' := hW
  obtain ⟨p, q, hA0, hV, _, _, _⟩ := hW
  have hA : DataW.TrodAll enc Tryz.prog W 0 (fun _ => true) true Tryz.f3.params.toList args.toList ds p := hA0
  rw [Tryz.params3] at hA hval
  obtain ⟨v0, v1, d0, d1, p0, p1, rfl, rfl, rfl, h0, h1⟩ := trodAll_two hA
  obtain ⟨rfl, rfl⟩ := trodVars_none hV
  obtain ⟨a, ca, rfl, ha⟩ := arg_struct Tryz.underlying27 readsSum (hval 0 27 v0 rfl rfl) h0
  obtain ⟨x1, rfl, hx1, he1⟩ := rep_sumB ha
  obtain ⟨b, hb⟩ := arg_slice Tryz.underlying28 readsGrS (hval 1 28 v1 rfl rfl) h1
  refine (wholeLeastValue a.1.1 a.1.2 a.2.1 a.2.2 b x1 v1 W hx1 he1 hb).mono fun e W' ⟨he, hb⟩ => ?_
  exact ⟨_, he, law_post (f := Tryz.f3) (s := Rows.fnExactLeastValueSpec) tryLaid (by kernel_rfl) rfl rfl Tryz.underlying4 hW' rfl hb⟩
theorem fnExactLeastValue_holds : Rows.FnExactLeastValueSaid :=
  OpenClaim.holds_of_wide 3 Tryz.f3 rfl rfl rfl rfl rfl rfl rfl ⟨rfl, rfl, rfl, rfl, rfl⟩ rfl rfl rfl rfl rfl (by kernel_rfl) Tryz.func3 (by kernel_rfl)
    (of_decide_eq_true (by kernel_rfl)) (by unfold Func.isWrapper; first | (rw [if_pos (by decide +kernel)]; kernel_rfl) | (rw [if_neg (by decide +kernel)]; exact ⟨rfl, rfl⟩))
    (fun os started H enc _ => fnExactLeastValue_lifted os started H enc)
#print axioms fnExactLeastValue_holds
end Go.Proofs.YtkfjlimlodbcgaaGreat

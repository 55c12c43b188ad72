import Derived.Test.YtekchdgpaemofaaGreatYyWBlockValue
import Derived.Test.YtekchdgpaemofaaGreatYyNc
namespace Go.Proofs.YtekchdgpaemofaaGreat
open Go.ChangeShapes Go.WideShapes Go.ChangeAt Go.RowKit
set_option linter.unusedVariables false
set_option linter.unusedSimpArgs false
attribute [local irreducible] Calls
theorem rep_block {w : World} {d : shBlock.T} {cs : List Value} (h : shBlock.rep w d cs) : ∃ v v', cs = [v, v'] ∧ Lst shFlag w d.1 v ∧ Lst (shL shFr) w d.2 v' := by
  obtain ⟨c1, c2, rfl, h1, h2⟩ := h
  have h3 := h1
  have h4 := h2
  obtain ⟨A, cap, rfl, _⟩ := h1
  obtain ⟨A', cap', rfl, _⟩ := h2
  exact ⟨_, _, rfl, h3, h4⟩
theorem wholeBlockValue (fs : List Flg) (mt : List (List (Int × Int))) (v u : Value) (n e : Int) (w : World) (h : Lst shFlag w fs v) (hm : Lst (shL shFr) w mt u) (hg : 0 ≤ e ∧ e ≤ 4294967295) :
    Calls Tryz.prog 5 #[.agg #[v, u], .agg #[.int .i64 n, .int .u32 e]] w fun e0 w' => e0 = .returned (.bool true) ∧ Below w.heap.size w w' :=
  walkBlockValue fs v mt u n e (cP (bkC fs mt n e) (bkO fs mt n e)) (cQ (bkC fs mt n e) (bkO fs mt n e)) (cC (bkC fs mt n e) (bkO fs mt n e)) (fun W u0 u1 g0 g1 l0 l1 => BlockValue_any W fs mt n e u0 u1 g0 g1 l0 hg) (fun W u0 u1 g0 g1 l0 l1 => sBlockValue_any W fs mt n e u0 u1 g0 g1 hg) w h hm

set_option maxRecDepth 100000 in
theorem fnExactBlockValue_lifted (os : Os) (started : os.Started) (H : Type) (enc : TypeId × Value → H) :
    ReturnsInHanded {} Tryz.checked os 5 .any (Rows.fnExactBlockValueSpec.pre6 enc Tryz.prog Tryz.f5 Rows.fnExactBlockValueRow.domain false) (Rows.fnExactBlockValueSpec.post enc Tryz.prog Tryz.f5 false true false false) := by
  refine returnsInHanded_of_change (C := Tryz.checked) tryOwn started (by kernel_rfl) Tryz.func5
    (ChangeSpec.witness6 (enc := enc) (C := Tryz.checked) false ⟨#[], #[.agg #[.slice none 0 0, .slice none 0 0], .agg #[.int .i64 0, .int .u32 0]], []⟩ 8 (by kernel_rfl) (by kernel_rfl) (by kernel_rfl) (by kernel_rfl)) ?_
  intro W base args ds gs before hval0 hW hcnd _
  have hval : ∀ (j : Nat) t v, Tryz.f5.params[j]? = some t → args[j]? = some v → Value.okWide Tryz.prog W .any base t v := hval0
  have hW' := hW
  obtain ⟨p, q, hA0, hV, _, _, _⟩ := hW
  have hA : DataW.TrodAll enc Tryz.prog W 0 (fun _ => true) true Tryz.f5.params.toList args.toList ds p := hA0
  rw [Tryz.params5] at hA hval
  obtain ⟨v0, v1, d0, d1, p0, p1, rfl, rfl, rfl, h0, h1⟩ := trodAll_two hA
  obtain ⟨rfl, rfl⟩ := trodVars_none hV
  obtain ⟨a, ca, rfl, ha⟩ := arg_struct Tryz.underlying51 readsBlock (hval 0 51 v0 rfl rfl) h0
  obtain ⟨x1, x2, rfl, hx1, hx2⟩ := rep_block ha
  obtain ⟨b, cb, rfl, hb⟩ := arg_struct Tryz.underlying45 readsGr (hval 1 45 v1 rfl rfl) h1
  obtain ⟨rfl, hb1, hb2⟩ := rep_gr hb
  refine (wholeBlockValue a.1 a.2 x1 x2 b.1 b.2 W hx1 hx2 hb2).mono fun e W' ⟨he, hb⟩ => ?_
  exact ⟨_, he, law_post (f := Tryz.f5) (s := Rows.fnExactBlockValueSpec) tryLaid (by kernel_rfl) rfl rfl Tryz.underlying4 hW' rfl hb⟩
theorem fnExactBlockValue_holds : Rows.FnExactBlockValueSaid :=
  OpenClaim.holds_of_wide 5 Tryz.f5 rfl rfl rfl rfl rfl rfl rfl ⟨rfl, rfl, rfl, rfl, rfl⟩ rfl rfl rfl rfl rfl (by kernel_rfl) Tryz.func5 (by kernel_rfl)
    (of_decide_eq_true (by kernel_rfl)) (by unfold Func.isWrapper; first | (rw [if_pos (by decide +kernel)]; kernel_rfl) | (rw [if_neg (by decide +kernel)]; exact ⟨rfl, rfl⟩))
    (fun os started H enc _ => fnExactBlockValue_lifted os started H enc)
#print axioms fnExactBlockValue_holds
end Go.Proofs.YtekchdgpaemofaaGreat

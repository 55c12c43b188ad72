/- ValidBlock returns what the reference returns: the law's row. -/
import Derived.Test.YtbpamifkfbcloaaWValidBlock
import Derived.Test.YtbpamifkfbcloaaVb
namespace Go.Proofs.Ytbpamifkfbcloaa
open Go.ChangeShapes Go.WideShapes Go.ChangeAt Go.RowKit
set_option linter.unusedVariables false
set_option linter.unusedSimpArgs false
attribute [local irreducible] Calls
theorem rep_block {w : World} {d : shBlock.T} {cs : List Value} (h : shBlock.rep w d cs) : ∃ v v', cs = [v, v'] ∧ Lst shFlag w d.1 v ∧ Lst (shL shFr) w d.2 v' := by
  obtain ⟨c1, c2, rfl, h1, h2⟩ := h
  have h3 := h1
  have h4 := h2
  obtain ⟨A, cap, rfl, _⟩ := h1
  obtain ⟨A', cap', rfl, _⟩ := h2
  exact ⟨_, _, rfl, h3, h4⟩
theorem wholeValidBlock (fs : List Flg) (mt : List (List (Int × Int))) (v u : Value) (w : World) (h : Lst shFlag w fs v) (hm : Lst (shL shFr) w mt u) :
    Calls Try.prog 4 #[.agg #[v, u]] w fun e0 w' => e0 = .returned (.bool true) ∧ Below w.heap.size w w' :=
  walkValidBlock fs v mt u (blkOk fs mt) (fun W u0 u1 g0 g1 l0 l1 => ValidBlock_any W fs mt u0 u1 g0 g1 l0) (fun W u0 u1 g0 g1 l0 l1 => sValidBlock_any W fs mt u0 u1 g0 g1) w h hm

set_option maxRecDepth 100000 in
theorem fnExactValidBlock_lifted (os : Os) (started : os.Started) (H : Type) (enc : TypeId × Value → H) :
    ReturnsInHanded {} Try.checked os 4 .any (Rows.fnExactValidBlockSpec.pre6 enc Try.prog Try.f4 Rows.fnExactValidBlockRow.domain false) (Rows.fnExactValidBlockSpec.post enc Try.prog Try.f4 false true false false) := by
  refine returnsInHanded_of_change (C := Try.checked) tryOwn started (by kernel_rfl) Try.func4
    (ChangeSpec.witness6 (enc := enc) (C := Try.checked) false ⟨#[], #[.agg #[.slice none 0 0, .slice none 0 0]], []⟩ 8 (by kernel_rfl) (by kernel_rfl) (by kernel_rfl) (by kernel_rfl)) ?_
  intro W base args ds gs before hval0 hW hcnd _
  have hval : ∀ (j : Nat) t v, Try.f4.params[j]? = some t → args[j]? = some v → Value.okWide Try.prog W .any base t v := hval0
  have hW' := hW
  obtain ⟨p, q, hA0, hV, _, _, _⟩ := hW
  have hA : DataW.TrodAll enc Try.prog W 0 (fun _ => true) true Try.f4.params.toList args.toList ds p := hA0
  rw [Try.params4] at hA hval
  obtain ⟨v0, d0, rfl, rfl, h0⟩ := trodAll_one hA
  obtain ⟨rfl, rfl⟩ := trodVars_none hV
  obtain ⟨a, ca, rfl, ha⟩ := arg_struct Try.underlying42 readsBlock (hval 0 42 v0 rfl rfl) h0
  obtain ⟨x1, x2, rfl, hx1, hx2⟩ := rep_block ha
  refine (wholeValidBlock a.1 a.2 x1 x2 W hx1 hx2).mono fun e W' ⟨he, hb⟩ => ?_
  exact ⟨_, he, law_post (f := Try.f4) (s := Rows.fnExactValidBlockSpec) tryLaid (by kernel_rfl) rfl rfl Try.underlying4 hW' rfl hb⟩
theorem fnExactValidBlock_holds : Rows.FnExactValidBlockSaid :=
  OpenClaim.holds_of_wide 4 Try.f4 rfl rfl rfl rfl rfl rfl rfl ⟨rfl, rfl, rfl, rfl, rfl⟩ rfl rfl rfl rfl rfl (by kernel_rfl) Try.func4 (by kernel_rfl)
    (of_decide_eq_true (by kernel_rfl)) (by unfold Func.isWrapper; first | (rw [if_pos (by decide +kernel)]; kernel_rfl) | (rw [if_neg (by decide +kernel)]; exact ⟨rfl, rfl⟩))
    (fun os started H enc _ => fnExactValidBlock_lifted os started H enc)
#print axioms fnExactValidBlock_holds
end Go.Proofs.Ytbpamifkfbcloaa

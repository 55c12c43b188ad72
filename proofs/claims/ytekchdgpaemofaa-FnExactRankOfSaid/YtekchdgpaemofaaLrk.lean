/- RankOf returns what the reference returns: the law's row. -/
import Derived.Test.YtekchdgpaemofaaWRankOf
import Derived.Test.YtekchdgpaemofaaPh
namespace Go.Proofs.Ytekchdgpaemofaa
open Go.ChangeShapes Go.WideShapes Go.ChangeAt Go.RowKit
set_option linter.unusedVariables false
set_option linter.unusedSimpArgs false
attribute [local irreducible] Calls
theorem wholeRankOf (a : List (List (Int × Int))) (v : Value) (w : World) (h : Lst (shL shFr) w a v) :
    Calls Try.prog 4 #[v] w fun e0 w' => e0 = .returned (.bool true) ∧ Below w.heap.size w w' :=
  walkRankOf a v (rkN (sqP a)) (sqC a) (fun W u0 h0 _ => RankOf_any W a u0 h0) (fun W u0 h0 _ => sRankOf_any W a u0 h0) w h

set_option maxRecDepth 100000 in
theorem fnExactRankOf_lifted (os : Os) (started : os.Started) (H : Type) (enc : TypeId × Value → H) :
    ReturnsInHanded {} Try.checked os 4 .any (Rows.fnExactRankOfSpec.pre6 enc Try.prog Try.f4 Rows.fnExactRankOfRow.domain false) (Rows.fnExactRankOfSpec.post enc Try.prog Try.f4 false true false false) := by
  refine returnsInHanded_of_change (C := Try.checked) tryOwn started (by kernel_rfl) Try.func4
    (ChangeSpec.witness6 (enc := enc) (C := Try.checked) false ⟨#[], #[.slice none 0 0], []⟩ 8 (by kernel_rfl) (by kernel_rfl) (by kernel_rfl) (by kernel_rfl)) ?_
  intro W base args ds gs before hval0 hW hcnd _
  have hval : ∀ (j : Nat) t v, Try.f4.params[j]? = some t → args[j]? = some v → Value.okWide Try.prog W .any base t v := hval0
  have hW' := hW
  obtain ⟨p, q, hA0, hV, _, _, _⟩ := hW
  have hA : DataW.TrodAll enc Try.prog W 0 (fun _ => true) true Try.f4.params.toList args.toList ds p := hA0
  rw [Try.params4] at hA hval
  obtain ⟨v0, d0, rfl, rfl, h0⟩ := trodAll_one hA
  obtain ⟨rfl, rfl⟩ := trodVars_none hV
  obtain ⟨a, ha⟩ := arg_slice Try.underlying22 readsFrSS (hval 0 22 v0 rfl rfl) h0
  refine (wholeRankOf a v0 W ha).mono fun e W' ⟨he, hb⟩ => ?_
  exact ⟨_, he, law_post (f := Try.f4) (s := Rows.fnExactRankOfSpec) tryLaid (by kernel_rfl) rfl rfl Try.underlying4 hW' rfl hb⟩
theorem fnExactRankOf_holds : Rows.FnExactRankOfSaid :=
  OpenClaim.holds_of_wide 4 Try.f4 rfl rfl rfl rfl rfl rfl rfl ⟨rfl, rfl, rfl, rfl, rfl⟩ rfl rfl rfl rfl rfl (by kernel_rfl) Try.func4 (by kernel_rfl)
    (of_decide_eq_true (by kernel_rfl)) (by unfold Func.isWrapper; first | (rw [if_pos (by decide +kernel)]; kernel_rfl) | (rw [if_neg (by decide +kernel)]; exact ⟨rfl, rfl⟩))
    (fun os started H enc _ => fnExactRankOf_lifted os started H enc)
#print axioms fnExactRankOf_holds
end Go.Proofs.Ytekchdgpaemofaa

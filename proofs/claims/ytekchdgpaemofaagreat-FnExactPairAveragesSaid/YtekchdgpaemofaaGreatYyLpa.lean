import Derived.Test.YtekchdgpaemofaaGreatYyWPairAverages
import Derived.Test.YtekchdgpaemofaaGreatYyQd
namespace Go.Proofs.YtekchdgpaemofaaGreat
open Go.ChangeShapes Go.WideShapes Go.ChangeAt Go.RowKit
set_option linter.unusedVariables false
set_option linter.unusedSimpArgs false
attribute [local irreducible] Calls
theorem wholePairAverages (fs : List Flg) (v : Value) (n e : Int) (w : World) (h : Lst shFlag w fs v) (hg : 0 ≤ e ∧ e ≤ 4294967295) :
    Calls Tryz.prog 4 #[v, .agg #[.int .i64 n, .int .u32 e]] w fun e0 w' => e0 = .returned (.bool true) ∧ Below w.heap.size w w' :=
  walkPairAverages fs v n e (pgR fs n e) (pgC fs n e) (pgR_small fs n e) (fun W u0 h0 l0 => PairAverages_any W fs n e u0 h0 l0 hg) (fun W u0 h0 l0 => sPairAverages_any W fs n e u0 h0 hg) w h

set_option maxRecDepth 100000 in
theorem fnExactPairAverages_lifted (os : Os) (started : os.Started) (H : Type) (enc : TypeId × Value → H) :
    ReturnsInHanded {} Tryz.checked os 4 .any (Rows.fnExactPairAveragesSpec.pre6 enc Tryz.prog Tryz.f4 Rows.fnExactPairAveragesRow.domain false) (Rows.fnExactPairAveragesSpec.post enc Tryz.prog Tryz.f4 false true false false) := by
  refine returnsInHanded_of_change (C := Tryz.checked) tryOwn started (by kernel_rfl) Tryz.func4
    (ChangeSpec.witness6 (enc := enc) (C := Tryz.checked) false ⟨#[], #[.slice none 0 0, .agg #[.int .i64 0, .int .u32 0]], []⟩ 8 (by kernel_rfl) (by kernel_rfl) (by kernel_rfl) (by kernel_rfl)) ?_
  intro W base args ds gs before hval0 hW hcnd _
  have hval : ∀ (j : Nat) t v, Tryz.f4.params[j]? = some t → args[j]? = some v → Value.okWide Tryz.prog W .any base t v := hval0
  have hW' := hW
  obtain ⟨p, q, hA0, hV, _, _, _⟩ := hW
  have hA : DataW.TrodAll enc Tryz.prog W 0 (fun _ => true) true Tryz.f4.params.toList args.toList ds p := hA0
  rw [Tryz.params4] at hA hval
  obtain ⟨v0, v1, d0, d1, p0, p1, rfl, rfl, rfl, h0, h1⟩ := trodAll_two hA
  obtain ⟨rfl, rfl⟩ := trodVars_none hV
  obtain ⟨a, ha⟩ := arg_slice Tryz.underlying22 readsFlagS (hval 0 22 v0 rfl rfl) h0
  obtain ⟨b, cb, rfl, hb⟩ := arg_struct Tryz.underlying45 readsGr (hval 1 45 v1 rfl rfl) h1
  obtain ⟨rfl, hb1, hb2⟩ := rep_gr hb
  refine (wholePairAverages a _ b.1 b.2 W ha hb2).mono fun e W' ⟨he, hb⟩ => ?_
  exact ⟨_, he, law_post (f := Tryz.f4) (s := Rows.fnExactPairAveragesSpec) tryLaid (by kernel_rfl) rfl rfl Tryz.underlying4 hW' rfl hb⟩
theorem fnExactPairAverages_holds : Rows.FnExactPairAveragesSaid :=
  OpenClaim.holds_of_wide 4 Tryz.f4 rfl rfl rfl rfl rfl rfl rfl ⟨rfl, rfl, rfl, rfl, rfl⟩ rfl rfl rfl rfl rfl (by kernel_rfl) Tryz.func4 (by kernel_rfl)
    (of_decide_eq_true (by kernel_rfl)) (by unfold Func.isWrapper; first | (rw [if_pos (by decide +kernel)]; kernel_rfl) | (rw [if_neg (by decide +kernel)]; exact ⟨rfl, rfl⟩))
    (fun os started H enc _ => fnExactPairAverages_lifted os started H enc)
#print axioms fnExactPairAverages_holds
end Go.Proofs.YtekchdgpaemofaaGreat

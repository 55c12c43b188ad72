/- PairTable returns what the reference returns: the law's row. -/
import Derived.Test.YtkfjlimlodbcgaaWPairTable
import Derived.Test.YtkfjlimlodbcgaaJk
namespace Go.Proofs.Ytkfjlimlodbcgaa
open Go.ChangeShapes Go.WideShapes Go.ChangeAt Go.RowKit
set_option linter.unusedVariables false
set_option linter.unusedSimpArgs false
attribute [local irreducible] Calls
theorem rep_flagP {w : World} {d : shFlag.T} {cs : List Value} (h : shFlag.rep w d cs) : cs = [.int .i64 d.1, .int .i64 d.2.1, .int .u32 d.2.2] ∧ okFlag d := by
  obtain ⟨rfl, h2⟩ := (flatFlag.1 _ _ _).1 h
  exact ⟨rfl, h2⟩
theorem wholePairTable (fs : List Flg) (v : Value) (g : Flg) (w : World) (h : Lst shFlag w fs v) (hg : okFlag g) :
    Calls Try.prog 5 #[v, .agg #[.int .i64 g.1, .int .i64 g.2.1, .int .u32 g.2.2]] w fun e0 w' => e0 = .returned (.bool true) ∧ Below w.heap.size w w' :=
  walkPairTable fs v g.1 g.2.1 g.2.2 (ptR fs g) (ptC fs g) (ptR_small fs g) (fun W u0 h0 l0 => PairTable_any W fs g u0 h0 l0 hg) (fun W u0 h0 l0 => sPairTable_any W fs g u0 h0 hg) w h

set_option maxRecDepth 100000 in
theorem fnExactPairTable_lifted (os : Os) (started : os.Started) (H : Type) (enc : TypeId × Value → H) :
    ReturnsInHanded {} Try.checked os 5 .any (Rows.fnExactPairTableSpec.pre6 enc Try.prog Try.f5 Rows.fnExactPairTableRow.domain false) (Rows.fnExactPairTableSpec.post enc Try.prog Try.f5 false true false false) := by
  refine returnsInHanded_of_change (C := Try.checked) tryOwn started (by kernel_rfl) Try.func5
    (ChangeSpec.witness6 (enc := enc) (C := Try.checked) false ⟨#[], #[.slice none 0 0, .agg #[.int .i64 0, .int .i64 0, .int .u32 0]], []⟩ 8 (by kernel_rfl) (by kernel_rfl) (by kernel_rfl) (by kernel_rfl)) ?_
  intro W base args ds gs before hval0 hW hcnd _
  have hval : ∀ (j : Nat) t v, Try.f5.params[j]? = some t → args[j]? = some v → Value.okWide Try.prog W .any base t v := hval0
  have hW' := hW
  obtain ⟨p, q, hA0, hV, _, _, _⟩ := hW
  have hA : DataW.TrodAll enc Try.prog W 0 (fun _ => true) true Try.f5.params.toList args.toList ds p := hA0
  rw [Try.params5] at hA hval
  obtain ⟨v0, v1, d0, d1, p0, p1, rfl, rfl, rfl, h0, h1⟩ := trodAll_two hA
  obtain ⟨rfl, rfl⟩ := trodVars_none hV
  obtain ⟨a, ha⟩ := arg_slice Try.underlying49 readsFlagS (hval 0 49 v0 rfl rfl) h0
  obtain ⟨b, cb, rfl, hb⟩ := arg_struct Try.underlying26 readsFlag (hval 1 26 v1 rfl rfl) h1
  obtain ⟨rfl, hb1⟩ := rep_flagP hb
  refine (wholePairTable a _ b W ha hb1).mono fun e W' ⟨he, hb⟩ => ?_
  exact ⟨_, he, law_post (f := Try.f5) (s := Rows.fnExactPairTableSpec) tryLaid (by kernel_rfl) rfl rfl Try.underlying4 hW' rfl hb⟩
theorem fnExactPairTable_holds : Rows.FnExactPairTableSaid :=
  OpenClaim.holds_of_wide 5 Try.f5 rfl rfl rfl rfl rfl rfl rfl ⟨rfl, rfl, rfl, rfl, rfl⟩ rfl rfl rfl rfl rfl (by kernel_rfl) Try.func5 (by kernel_rfl)
    (of_decide_eq_true (by kernel_rfl)) (by unfold Func.isWrapper; first | (rw [if_pos (by decide +kernel)]; kernel_rfl) | (rw [if_neg (by decide +kernel)]; exact ⟨rfl, rfl⟩))
    (fun os started H enc _ => fnExactPairTable_lifted os started H enc)
#print axioms fnExactPairTable_holds
end Go.Proofs.Ytkfjlimlodbcgaa

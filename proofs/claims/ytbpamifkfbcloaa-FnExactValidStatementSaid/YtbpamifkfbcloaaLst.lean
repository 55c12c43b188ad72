/- ValidStatement returns what the reference returns: the law's row. -/
import Derived.Test.YtbpamifkfbcloaaWValidStatement
import Derived.Test.YtbpamifkfbcloaaSv
namespace Go.Proofs.Ytbpamifkfbcloaa
open Go.ChangeShapes Go.WideShapes Go.ChangeAt Go.RowKit
set_option linter.unusedVariables false
set_option linter.unusedSimpArgs false
attribute [local irreducible] Calls
theorem rep_stateB {w : World} {d : shState.T} {cs : List Value} (h : shState.rep w d cs) : ∃ v v', cs = [v, .int .i64 d.2.1.1.1, .int .u32 d.2.1.1.2, .int .i64 d.2.1.2.1, v', .int .i64 d.2.2.1, .int .i64 d.2.2.2] ∧ Lst shGr w d.1 v ∧ Lst shTerm w d.2.1.2.2 v' ∧ (0 ≤ d.2.1.1.2 ∧ d.2.1.1.2 ≤ 4294967295) ∧ okI .i64 d.2.2.1 ∧ okI .i64 d.2.2.2 := by
  obtain ⟨v, v', h1, h2, h3⟩ := rep_state h
  obtain ⟨_, _, _, _, ⟨_, _, _, h4, h5⟩⟩ := h
  obtain ⟨_, _, _, h6, _⟩ := h4
  obtain ⟨_, h7⟩ := (flatFr.1 _ _ _).1 h5
  exact ⟨v, v', h1, h2, h3, (rep_gr h6).2.2, h7.1, h7.2⟩
theorem wholeValidStatement (gs : List (Int × Int)) (tn te s : Int) (xs : List Trm) (p q : Int) (v u : Value) (w : World) (h : Lst shGr w gs v) (hx : Lst shTerm w xs u) (he : 0 ≤ te ∧ te ≤ 4294967295) (hp : okI .i64 p) (hq : okI .i64 q) :
    Calls Try.prog 7 #[.agg #[v, .int .i64 tn, .int .u32 te, .int .i64 s, u, .int .i64 p, .int .i64 q]] w fun e0 w' => e0 = .returned (.bool true) ∧ Below w.heap.size w w' :=
  walkValidStatement gs v tn te s xs u p q (stOk gs tn te s xs p q) (fun W u0 u1 g0 g1 l0 l1 => ValidStatement_any W gs tn te s xs p q u0 u1 g0 g1 he hp hq l0) (fun W u0 u1 g0 g1 l0 l1 => sValidStatement_any W gs tn te s xs p q u0 u1 g0 g1 he hp hq) w h hx

set_option maxRecDepth 100000 in
theorem fnExactValidStatement_lifted (os : Os) (started : os.Started) (H : Type) (enc : TypeId × Value → H) :
    ReturnsInHanded {} Try.checked os 7 .any (Rows.fnExactValidStatementSpec.pre6 enc Try.prog Try.f7 Rows.fnExactValidStatementRow.domain false) (Rows.fnExactValidStatementSpec.post enc Try.prog Try.f7 false true false false) := by
  refine returnsInHanded_of_change (C := Try.checked) tryOwn started (by kernel_rfl) Try.func7
    (ChangeSpec.witness6 (enc := enc) (C := Try.checked) false ⟨#[], #[.agg #[.slice none 0 0, .int .i64 0, .int .u32 0, .int .i64 0, .slice none 0 0, .int .i64 0, .int .i64 0]], []⟩ 8 (by kernel_rfl) (by kernel_rfl) (by kernel_rfl) (by kernel_rfl)) ?_
  intro W base args ds gs before hval0 hW hcnd _
  have hval : ∀ (j : Nat) t v, Try.f7.params[j]? = some t → args[j]? = some v → Value.okWide Try.prog W .any base t v := hval0
  have hW' := hW
  obtain ⟨p, q, hA0, hV, _, _, _⟩ := hW
  have hA : DataW.TrodAll enc Try.prog W 0 (fun _ => true) true Try.f7.params.toList args.toList ds p := hA0
  rw [Try.params7] at hA hval
  obtain ⟨v0, d0, rfl, rfl, h0⟩ := trodAll_one hA
  obtain ⟨rfl, rfl⟩ := trodVars_none hV
  obtain ⟨a, ca, rfl, ha⟩ := arg_struct Try.underlying68 readsState (hval 0 68 v0 rfl rfl) h0
  obtain ⟨x1, x2, rfl, hx1, hx2, he1, hp1, hq1⟩ := rep_stateB ha
  refine (wholeValidStatement a.1 a.2.1.1.1 a.2.1.1.2 a.2.1.2.1 a.2.1.2.2 a.2.2.1 a.2.2.2 x1 x2 W hx1 hx2 he1 hp1 hq1).mono fun e W' ⟨he, hb⟩ => ?_
  exact ⟨_, he, law_post (f := Try.f7) (s := Rows.fnExactValidStatementSpec) tryLaid (by kernel_rfl) rfl rfl Try.underlying4 hW' rfl hb⟩
theorem fnExactValidStatement_holds : Rows.FnExactValidStatementSaid :=
  OpenClaim.holds_of_wide 7 Try.f7 rfl rfl rfl rfl rfl rfl rfl ⟨rfl, rfl, rfl, rfl, rfl⟩ rfl rfl rfl rfl rfl (by kernel_rfl) Try.func7 (by kernel_rfl)
    (of_decide_eq_true (by kernel_rfl)) (by unfold Func.isWrapper; first | (rw [if_pos (by decide +kernel)]; kernel_rfl) | (rw [if_neg (by decide +kernel)]; exact ⟨rfl, rfl⟩))
    (fun os started H enc _ => fnExactValidStatement_lifted os started H enc)
#print axioms fnExactValidStatement_holds
end Go.Proofs.Ytbpamifkfbcloaa

/- ValidCertificate returns what the reference returns: the law's row. -/
import Derived.Test.YtpcjinbbgnmchaaGreatWValidCertificate
import Derived.Test.YtpcjinbbgnmchaaGreatCe
namespace Go.Proofs.YtpcjinbbgnmchaaGreat
open Go.ChangeShapes Go.WideShapes Go.ChangeAt Go.RowKit
set_option linter.unusedVariables false
set_option linter.unusedSimpArgs false
attribute [local irreducible] Calls
theorem rep_stateB {w : World} {d : shState.T} {cs : List Value} (h : shState.rep w d cs) : ∃ v v', cs = [v, .int .i64 d.2.1.1.1, .int .u32 d.2.1.1.2, .int .i64 d.2.1.2.1, v', .int .i64 d.2.2.1, .int .i64 d.2.2.2] ∧ Lst shGr w d.1 v ∧ Lst shTerm w d.2.1.2.2 v' ∧ (0 ≤ d.2.1.1.2 ∧ d.2.1.1.2 ≤ 4294967295) ∧ okI .i64 d.2.2.1 ∧ okI .i64 d.2.2.2 := by
  obtain ⟨v, v', h1, h2, h3⟩ := rep_state h
  obtain ⟨_, _, _, _, ⟨_, _, _, h4, h5⟩⟩ := h
  obtain ⟨_, _, _, h6, _⟩ := h4
  obtain ⟨_, h7⟩ := (flatFr.1 _ _ _).1 h5
  exact ⟨v, v', h1, h2, h3, (rep_gr h6).2.2, h7.1, h7.2⟩
theorem wholeValidCertificate (gs : List (Int × Int)) (tn te s : Int) (xs : List Trm) (p q sz : Int) (bs : List Blk) (v u x : Value) (w : World) (h : Lst shGr w gs v) (hx : Lst shTerm w xs u) (hb : Lst shBlock w bs x) (he : 0 ≤ te ∧ te ≤ 4294967295) (hp : okI .i64 p) (hq : okI .i64 q) :
    Calls Tryz.prog 6 #[.agg #[v, .int .i64 tn, .int .u32 te, .int .i64 s, u, .int .i64 p, .int .i64 q], .agg #[.int .i64 sz, x]] w fun e0 w' => e0 = .returned (.bool true) ∧ Below w.heap.size w w' :=
  walkValidCertificate gs v tn te s xs u p q sz bs x (ctOk gs tn te s xs p q sz bs) (fun W u0 u1 u2 g0 g1 g2 l0 l1 l2 => ValidCertificate_any W gs tn te s xs p q sz bs u0 u1 u2 g0 g1 g2 he hp hq l0 l2.1 (fun b hb => (l2.2 b hb).1)) (fun W u0 u1 u2 g0 g1 g2 l0 l1 l2 => sValidCertificate_any W gs tn te s xs p q sz bs u0 u1 u2 g0 g1 g2 he hp hq l2.1) w h hx hb

set_option maxRecDepth 100000 in
theorem fnExactValidCertificate_lifted (os : Os) (started : os.Started) (H : Type) (enc : TypeId × Value → H) :
    ReturnsInHanded {} Tryz.checked os 6 .any (Rows.fnExactValidCertificateSpec.pre6 enc Tryz.prog Tryz.f6 Rows.fnExactValidCertificateRow.domain false) (Rows.fnExactValidCertificateSpec.post enc Tryz.prog Tryz.f6 false true false false) := by
  refine returnsInHanded_of_change (C := Tryz.checked) tryOwn started (by kernel_rfl) Tryz.func6
    (ChangeSpec.witness6 (enc := enc) (C := Tryz.checked) false ⟨#[], #[.agg #[.slice none 0 0, .int .i64 0, .int .u32 0, .int .i64 0, .slice none 0 0, .int .i64 0, .int .i64 0], .agg #[.int .i64 0, .slice none 0 0]], []⟩ 8 (by kernel_rfl) (by kernel_rfl) (by kernel_rfl) (by kernel_rfl)) ?_
  intro W base args ds gs before hval0 hW hcnd _
  have hval : ∀ (j : Nat) t v, Tryz.f6.params[j]? = some t → args[j]? = some v → Value.okWide Tryz.prog W .any base t v := hval0
  have hW' := hW
  obtain ⟨p, q, hA0, hV, _, _, _⟩ := hW
  have hA : DataW.TrodAll enc Tryz.prog W 0 (fun _ => true) true Tryz.f6.params.toList args.toList ds p := hA0
  rw [Tryz.params6] at hA hval
  obtain ⟨v0, v1, d0, d1, p0, p1, rfl, rfl, rfl, h0, h1⟩ := trodAll_two hA
  obtain ⟨rfl, rfl⟩ := trodVars_none hV
  obtain ⟨a, ca, rfl, ha⟩ := arg_struct Tryz.underlying45 readsState (hval 0 45 v0 rfl rfl) h0
  obtain ⟨x1, x2, rfl, hx1, hx2, he1, hp1, hq1⟩ := rep_stateB ha
  obtain ⟨b, cb, rfl, hb0⟩ := arg_struct Tryz.underlying48 readsCert (hval 1 48 v1 rfl rfl) h1
  obtain ⟨vb, rfl, hB1⟩ := rep_cert hb0
  refine (wholeValidCertificate a.1 a.2.1.1.1 a.2.1.1.2 a.2.1.2.1 a.2.1.2.2 a.2.2.1 a.2.2.2 b.1 b.2 x1 x2 vb W hx1 hx2 hB1 he1 hp1 hq1).mono fun e W' ⟨he, hb⟩ => ?_
  exact ⟨_, he, law_post (f := Tryz.f6) (s := Rows.fnExactValidCertificateSpec) tryLaid (by kernel_rfl) rfl rfl Tryz.underlying4 hW' rfl hb⟩
theorem fnExactValidCertificate_holds : Rows.FnExactValidCertificateSaid :=
  OpenClaim.holds_of_wide 6 Tryz.f6 rfl rfl rfl rfl rfl rfl rfl ⟨rfl, rfl, rfl, rfl, rfl⟩ rfl rfl rfl rfl rfl (by kernel_rfl) Tryz.func6 (by kernel_rfl)
    (of_decide_eq_true (by kernel_rfl)) (by unfold Func.isWrapper; first | (rw [if_pos (by decide +kernel)]; kernel_rfl) | (rw [if_neg (by decide +kernel)]; exact ⟨rfl, rfl⟩))
    (fun os started H enc _ => fnExactValidCertificate_lifted os started H enc)
#print axioms fnExactValidCertificate_holds
end Go.Proofs.YtpcjinbbgnmchaaGreat

/- DivFractions returns what the reference returns: the law's row. -/
import Derived.Test.YtmefoamhmmjhdaaLc
import Derived.Test.YtmefoamhmmjhdaaFr2
import Derived.Test.YtmefoamhmmjhdaaSf2
namespace Go.Proofs.Ytmefoamhmmjhdaa
open Go.ChangeShapes Go.WideShapes Go.ChangeAt Go.RowKit
set_option linter.unusedVariables false
set_option linter.unusedSimpArgs false

set_option maxHeartbeats 1000000 in
theorem walkDivFractions (p q r s : Int) (w : World) (h1 : -9223372036854775808 ≤ p) (h2 : p ≤ 9223372036854775807) (h3 : -9223372036854775808 ≤ q) (h4 : q ≤ 9223372036854775807)
    (h5 : -9223372036854775808 ≤ r) (h6 : r ≤ 9223372036854775807) (h7 : -9223372036854775808 ≤ s) (h8 : s ≤ 9223372036854775807) :
    Calls Try.prog 7 #[.agg #[.int .i64 p, .int .i64 q], .agg #[.int .i64 r, .int .i64 s]] w fun e w' => e = .returned (.bool true) ∧ Below w.heap.size w w' := by
  go_enter Try.func7, Try.ntmps7
  go_upto_region 1 with fail
  go_cut [5, 6] (fun s5 s6 wx => ∃ g : Nat, s5 = .pointer (some ⟨g, 0, none⟩) ∧ s6 = .int .i64 (okC (frOk p q && frOk r s && !(r == 0)) (divE p q r s) (divX p q r s) (divY p q r s)) ∧ Below w.heap.size w wx ∧ w.heap.size + 1 < wx.heap.size ∧ g < wx.heap.size ∧ wx.cell? ⟨g, 0, none⟩ = some (.int .i64 (okP (frOk p q && frOk r s && !(r == 0)) (divX p q r s) (divY p q r s))) ∧ wx.cell? ⟨g, 1, none⟩ = some (.int .i64 (okQ (frOk p q && frOk r s && !(r == 0)) (divX p q r s) (divY p q r s))) ∧ wx.cell? ⟨w.heap.size, 0, none⟩ = some (.int .i64 p) ∧ wx.cell? ⟨w.heap.size, 1, none⟩ = some (.int .i64 q) ∧ wx.cell? ⟨w.heap.size + 1, 0, none⟩ = some (.int .i64 r) ∧ wx.cell? ⟨w.heap.size + 1, 1, none⟩ = some (.int .i64 s))
  case first =>
    go_region_held3 (fun w' => w'.cell? ⟨w.heap.size, 0, none⟩ = some (.int .i64 p) ∧ w'.cell? ⟨w.heap.size, 1, none⟩ = some (.int .i64 q) ∧ w'.cell? ⟨w.heap.size + 1, 0, none⟩ = some (.int .i64 r) ∧ w'.cell? ⟨w.heap.size + 1, 1, none⟩ = some (.int .i64 s)) (simp [*, go_sem]) (first | (go_at_call 13; refine (toFraction_any _ _ _).mono ?_; rintro e w1 ⟨rfl, hb⟩; obtain ⟨X, m, rfl⟩ := plsOf hb; clear hb) | (go_at_call 19; refine (sDivFractions_any _ _ _ _ _ h1 h2 h3 h4 h5 h6 h7 h8).mono ?_; rintro e w1 ⟨rfl, hb⟩; obtain ⟨X, m, rfl⟩ := plsOf hb; clear hb))
    all_goals (go_wp2_with fail; go_meet; exact ⟨_, rfl, rfl, (by (try refine bsz ?_); repeat (first | exact Below.refl _ _ | assumption | refine Below.setCell ?_ (by simp <;> omega) _ | refine bpl ?_ _ _ | refine bal ?_ _ | refine bdrew ?_ _)), by simp <;> omega, by simp <;> omega, by simp [go_sem], by simp [go_sem], by simp [go_sem], by simp [go_sem], by simp [go_sem], by simp [go_sem]⟩)
  case rest =>
    obtain ⟨g, rfl, rfl, hB, hz, hg, c0, c1, d0, d1, d2, d3⟩ := hcut
    have hz1 : w.heap.size < wc.heap.size := by omega
    go_upto_region 2 with fail
    go_cut [7, 8] (fun s7 s8 wx => ∃ g' : Nat, s7 = .pointer (some ⟨g', 0, none⟩) ∧ s8 = .int .i64 (okC (frOk p q && frOk r s && !(r == 0)) (divE p q r s) (divX p q r s) (divY p q r s)) ∧ Below w.heap.size w wx ∧ wx.cell? ⟨g, 0, none⟩ = some (.int .i64 (okP (frOk p q && frOk r s && !(r == 0)) (divX p q r s) (divY p q r s))) ∧ wx.cell? ⟨g, 1, none⟩ = some (.int .i64 (okQ (frOk p q && frOk r s && !(r == 0)) (divX p q r s) (divY p q r s))) ∧ wx.cell? ⟨g', 0, none⟩ = some (.int .i64 (okP (frOk p q && frOk r s && !(r == 0)) (divX p q r s) (divY p q r s))) ∧ wx.cell? ⟨g', 1, none⟩ = some (.int .i64 (okQ (frOk p q && frOk r s && !(r == 0)) (divX p q r s) (divY p q r s))))
    case first =>
      go_region_held3 (fun w' => w'.cell? ⟨w.heap.size, 0, none⟩ = some (.int .i64 p) ∧ w'.cell? ⟨w.heap.size, 1, none⟩ = some (.int .i64 q) ∧ w'.cell? ⟨w.heap.size + 1, 0, none⟩ = some (.int .i64 r) ∧ w'.cell? ⟨w.heap.size + 1, 1, none⟩ = some (.int .i64 s)) (simp [*, go_sem]) (first | (go_at_call 13; refine (toFraction_any _ _ _).mono ?_; rintro e w1 ⟨rfl, hb⟩; obtain ⟨X, m, rfl⟩ := plsOf hb; clear hb) | (go_at_call 20; refine (DivFractions_any _ _ _ _ _ h1 h2 h3 h4 h5 h6 h7 h8).mono ?_; rintro e w1 ⟨rfl, hb⟩; obtain ⟨X, m, rfl⟩ := plsOf hb; clear hb))
      all_goals (go_wp2_with fail; go_meet; exact ⟨_, rfl, rfl, (by (try refine bsz ?_); repeat (first | exact Below.refl _ _ | assumption | refine Below.setCell ?_ (by simp <;> omega) _ | refine bpl ?_ _ _ | refine bal ?_ _ | refine bdrew ?_ _)), by simp [*, go_sem], by simp [*, go_sem], by simp [go_sem], by simp [go_sem]⟩)
    case rest =>
      obtain ⟨g', rfl, rfl, hB', e0, e1, e2, e3⟩ := hcut
      go_wp2_with (first | (go_at_call 11; refine (eqFraction_same _ _ _).mono ?_; rintro e w1 ⟨rfl, hb⟩; obtain ⟨X, m, rfl⟩ := plsOf hb; clear hb))
      go_ret
      exact ⟨rfl, (by (try refine bsz ?_); repeat (first | exact Below.refl _ _ | assumption | refine Below.setCell ?_ (by simp <;> omega) _ | refine bpl ?_ _ _ | refine bal ?_ _ | refine bdrew ?_ _))⟩

set_option maxRecDepth 100000 in
theorem fnExactDivFractions_lifted (os : Os) (started : os.Started) (H : Type) (enc : TypeId × Value → H) :
    ReturnsInHanded {} Try.checked os 7 .any (Rows.fnExactDivFractionsSpec.pre6 enc Try.prog Try.f7 Rows.fnExactDivFractionsRow.domain false) (Rows.fnExactDivFractionsSpec.post enc Try.prog Try.f7 false true false false) := by
  refine returnsInHanded_of_change (C := Try.checked) tryOwn started (by kernel_rfl) Try.func7
    (ChangeSpec.witness6 (enc := enc) (C := Try.checked) false ⟨#[], #[.agg #[.int .i64 0, .int .i64 0], .agg #[.int .i64 0, .int .i64 0]], []⟩ 8 (by kernel_rfl) (by kernel_rfl) (by kernel_rfl) (by kernel_rfl)) ?_
  intro W base args ds gs before hval0 hW hcnd _
  have hval : ∀ (j : Nat) t v, Try.f7.params[j]? = some t → args[j]? = some v → Value.okWide Try.prog W .any base t v := hval0
  have hW' := hW
  obtain ⟨p, q, hA0, hV, _, _, _⟩ := hW
  have hA : DataW.TrodAll enc Try.prog W 0 (fun _ => true) true Try.f7.params.toList args.toList ds p := hA0
  rw [Try.params7] at hA hval
  obtain ⟨v0, v1, d0, d1, p0, p1, rfl, rfl, rfl, h0, h1⟩ := trodAll_two hA
  obtain ⟨rfl, rfl⟩ := trodVars_none hV
  obtain ⟨a, ca, rfl, ha⟩ := arg_struct Try.underlying28 readsFrL (hval 0 28 v0 rfl rfl) h0
  obtain ⟨b, cb, rfl, hb0⟩ := arg_struct Try.underlying28 readsFrL (hval 1 28 v1 rfl rfl) h1
  obtain ⟨rfl, ⟨i1, i2⟩, i3, i4⟩ := rep_fr ha
  obtain ⟨rfl, ⟨i5, i6⟩, i7, i8⟩ := rep_fr hb0
  refine (walkDivFractions a.1 a.2 b.1 b.2 W i1 i2 i3 i4 i5 i6 i7 i8).mono fun e W' ⟨he, hb⟩ => ?_
  exact ⟨_, he, law_post (f := Try.f7) (s := Rows.fnExactDivFractionsSpec) tryLaid (by kernel_rfl) rfl rfl Try.underlying4 hW' rfl hb⟩
theorem fnExactDivFractions_holds : Rows.FnExactDivFractionsSaid :=
  OpenClaim.holds_of_wide 7 Try.f7 rfl rfl rfl rfl rfl rfl rfl ⟨rfl, rfl, rfl, rfl, rfl⟩ rfl rfl rfl rfl rfl (by kernel_rfl) Try.func7 (by kernel_rfl)
    (of_decide_eq_true (by kernel_rfl)) (by unfold Func.isWrapper; first | (rw [if_pos (by decide +kernel)]; kernel_rfl) | (rw [if_neg (by decide +kernel)]; exact ⟨rfl, rfl⟩))
    (fun os started H enc _ => fnExactDivFractions_lifted os started H enc)
#print axioms fnExactDivFractions_holds
end Go.Proofs.Ytmefoamhmmjhdaa

/- What the program's functions for use from outside on fractions return. -/
import Derived.Test.YtnajolfiikamcaaFr
import Derived.BigGuardPart
import Derived.Deep.RegionHeld3
import Derived.Shelf.Abstract
namespace Go.Proofs.Ytnajolfiikamcaa
open Go.RowKit
set_option linter.unusedVariables false
set_option linter.unusedSimpArgs false

theorem valid_any (p q : Int) (w : World) (h : -9223372036854775808 ≤ p) (h2 : p ≤ 9223372036854775807) (h3 : -9223372036854775808 ≤ q) (h4 : q ≤ 9223372036854775807) :
    Calls Try.prog 82 #[.agg #[.int .i64 p, .int .i64 q]] w fun e w' => e = .returned (.bool (frOk p q)) ∧ Below w.heap.size w w' := by
  go_enter Try.func82, Try.ntmps82
  go_wp2_with (first | (go_at_call 136; refine Calls.mono (gcd_any _ _ _ (by omega) (by omega) (by omega) (by omega)) ?_; rintro e w1 ⟨rfl, n, rfl⟩))
  all_goals go_ret
  all_goals refine ⟨ret_bool ?_, (by (try with_reducible refine bsz ?_); repeat (first | with_reducible exact Below.refl _ _ | ((with_reducible refine bpre ?_); (try simp only [Array.append_assoc]); repeat (first | with_reducible exact Pre.refl _ | with_reducible exact Pre.base _ _ | with_reducible refine Pre.cons _ ?_)) | with_reducible assumption | ((with_reducible refine bsetr ?_); rfl) | with_reducible refine Below.setCell ?_ (by simp <;> omega) _ | with_reducible refine bpl ?_ _ _ | with_reducible refine bal ?_ _ | with_reducible refine bdrew1 ?_ | with_reducible refine bdrew ?_ _))⟩
  all_goals rw [Bool.eq_iff_iff, frOk_iff]
  all_goals simp
  all_goals omega

/-- What a function value on the sums makes in every world above w. -/
def Makes (f : FuncId) (caps : Array Value) (w : World) (x y : Int) (z : Bool) : Prop :=
  ∀ (W : World) (g : Nat), Below w.heap.size w W → w.heap.size ≤ g → g < W.heap.size → W.cell? ⟨g, 0, none⟩ = some (.bool false) → W.frozen? ⟨g, 0, none⟩ = false →
    Calls Try.prog f (#[.pointer (some ⟨g, 0, none⟩)] ++ caps) W fun e W' => e = .returned (.agg #[.int .i64 x, .int .i64 y]) ∧ Below W.heap.size (W.setCell ⟨g, 0, none⟩ (.bool z)) W'

/-- 'worked': a fraction is not valid. -/
theorem worked_bad (f : FuncId) (caps : Array Value) (p q r s : Int) (w : World) (h : -9223372036854775808 ≤ p) (h2 : p ≤ 9223372036854775807) (h3 : -9223372036854775808 ≤ q) (h4 : q ≤ 9223372036854775807)
    (h5 : -9223372036854775808 ≤ r) (h6 : r ≤ 9223372036854775807) (h7 : -9223372036854775808 ≤ s) (h8 : s ≤ 9223372036854775807) (hbad : (frOk p q && frOk r s) = false) :
    Calls Try.prog 72 #[.agg #[.int .i64 p, .int .i64 q], .agg #[.int .i64 r, .int .i64 s], .func (.func f) #[] caps] w fun e w' => e = .returned (.tuple #[.agg #[.int .i64 0, .int .i64 0], .int .i64 1]) ∧ Below w.heap.size w w' := by
  cases hv : frOk p q
  · clear hbad
    go_enter Try.func72, Try.ntmps72
    go_wp2_with (first | (go_at_call 82; refine Calls.mono (valid_any _ _ _ h h2 h3 h4) ?_; rintro e w1 ⟨rfl, hb⟩; obtain ⟨X, m, rfl⟩ := plsOf hb; clear hb))
    exact bodyPost_ret (v := .tuple #[.agg #[.int .i64 0, .int .i64 0], .int .i64 1]) (by simp [results, Try.results72, go_sem]) rfl ⟨rfl, (by (try with_reducible refine bsz ?_); repeat (first | with_reducible exact Below.refl _ _ | ((with_reducible refine bpre ?_); (try simp only [Array.append_assoc]); repeat (first | with_reducible exact Pre.refl _ | with_reducible exact Pre.base _ _ | with_reducible refine Pre.cons _ ?_)) | with_reducible assumption | ((with_reducible refine bsetr ?_); rfl) | with_reducible refine Below.setCell ?_ (by simp <;> omega) _ | with_reducible refine bpl ?_ _ _ | with_reducible refine bal ?_ _ | with_reducible refine bdrew1 ?_ | with_reducible refine bdrew ?_ _))⟩
  · rw [hv, Bool.true_and] at hbad
    go_enter Try.func72, Try.ntmps72
    go_wp2_with (fail)
    refine (valid_any _ _ _ h h2 h3 h4).mono ?_; rintro e w1 ⟨rfl, hb⟩; obtain ⟨X, m, rfl⟩ := plsOf hb; clear hb
    go_wp2_with (first | (go_at_call 82; refine Calls.mono (valid_any _ _ _ h5 h6 h7 h8) ?_; rintro e w1 ⟨rfl, hb⟩; obtain ⟨X, m, rfl⟩ := plsOf hb; clear hb))
    exact bodyPost_ret (v := .tuple #[.agg #[.int .i64 0, .int .i64 0], .int .i64 1]) (by simp [results, Try.results72, go_sem]) rfl ⟨rfl, (by (try with_reducible refine bsz ?_); repeat (first | with_reducible exact Below.refl _ _ | ((with_reducible refine bpre ?_); (try simp only [Array.append_assoc]); repeat (first | with_reducible exact Pre.refl _ | with_reducible exact Pre.base _ _ | with_reducible refine Pre.cons _ ?_)) | with_reducible assumption | ((with_reducible refine bsetr ?_); rfl) | with_reducible refine Below.setCell ?_ (by simp <;> omega) _ | with_reducible refine bpl ?_ _ _ | with_reducible refine bal ?_ _ | with_reducible refine bdrew1 ?_ | with_reducible refine bdrew ?_ _))⟩

theorem worked_good (f : FuncId) (caps : Array Value) (x y : Int) (z : Bool) (p q r s : Int) (w : World) (h : -9223372036854775808 ≤ p) (h2 : p ≤ 9223372036854775807) (h3 : -9223372036854775808 ≤ q) (h4 : q ≤ 9223372036854775807)
    (h5 : -9223372036854775808 ≤ r) (h6 : r ≤ 9223372036854775807) (h7 : -9223372036854775808 ≤ s) (h8 : s ≤ 9223372036854775807) (hv : frOk p q = true) (hw : frOk r s = true) (eg : ∀ args w, (callFunc f args).run Try.prog w = .ok (.enter f args) w) (hm : Makes f caps w x y z) :
    Calls Try.prog 72 #[.agg #[.int .i64 p, .int .i64 q], .agg #[.int .i64 r, .int .i64 s], .func (.func f) #[] caps] w fun e w' => e = .returned (.tuple #[.agg #[.int .i64 (pickI z 0 x), .int .i64 (pickI z 0 y)], .int .i64 (pickI z 3 0)]) ∧ Below w.heap.size w w' := by
  go_enter Try.func72, Try.ntmps72
  go_wp2_with (fail)
  refine (valid_any _ _ _ h h2 h3 h4).mono ?_; rintro e w1 ⟨rfl, hb⟩; obtain ⟨X, m, rfl⟩ := plsOf hb; clear hb
  go_wp2_with (fail)
  refine (valid_any _ _ _ h5 h6 h7 h8).mono ?_; rintro e w1 ⟨rfl, hb⟩; obtain ⟨X, m, rfl⟩ := plsOf hb; clear hb
  go_wp2_with (fail)
  refine (hm _ _ ?_ ?_ ?_ ?_ ?_).mono ?_
  · exact (by (try with_reducible refine bsz ?_); repeat (first | with_reducible exact Below.refl _ _ | ((with_reducible refine bpre ?_); (try simp only [Array.append_assoc]); repeat (first | with_reducible exact Pre.refl _ | with_reducible exact Pre.base _ _ | with_reducible refine Pre.cons _ ?_)) | with_reducible assumption | ((with_reducible refine bsetr ?_); rfl) | with_reducible refine Below.setCell ?_ (by simp <;> omega) _ | with_reducible refine bpl ?_ _ _ | with_reducible refine bal ?_ _ | with_reducible refine bdrew1 ?_ | with_reducible refine bdrew ?_ _))
  iterate 4 (· first | (simp [go_sem]; done) | (simp; omega) | omega)
  rintro e w1 ⟨rfl, hb⟩; obtain ⟨X, m, rfl⟩ := plsOfS hb; clear hb
  go_wp2_with (first | (go_at_call 67; refine Calls.mono (told_any _ _ z _ _ _ (by simp [go_sem]) (by simp [go_sem])) ?_; rintro e w1 ⟨rfl, hb⟩; obtain ⟨X, m, rfl⟩ := plsOf hb; clear hb))
  exact bodyPost_ret (v := .tuple #[.agg #[.int .i64 (pickI z 0 x), .int .i64 (pickI z 0 y)], .int .i64 (pickI z 3 0)]) (by simp [results, Try.results72, go_sem]) rfl ⟨rfl, (by (try with_reducible refine bsz ?_); repeat (first | with_reducible exact Below.refl _ _ | ((with_reducible refine bpre ?_); (try simp only [Array.append_assoc]); repeat (first | with_reducible exact Pre.refl _ | with_reducible exact Pre.base _ _ | with_reducible refine Pre.cons _ ?_)) | with_reducible assumption | ((with_reducible refine bsetr ?_); rfl) | with_reducible refine Below.setCell ?_ (by simp <;> omega) _ | with_reducible refine bpl ?_ _ _ | with_reducible refine bal ?_ _ | with_reducible refine bdrew1 ?_ | with_reducible refine bdrew ?_ _))⟩

theorem in_any (n a b : Int) (w : World) : Calls Try.prog 66 #[.int .i64 n, .int .i64 a, .int .i64 b] w fun e w' => e = .returned (.bool (inB n a b)) ∧ w = w' := by
  go_enter Try.func66, Try.ntmps66
  go_wp2
  all_goals go_ret
  all_goals exact ⟨ret_bool (by simp [inB]; omega), rfl⟩

theorem FractionOf_any (p q : Int) (w : World) :
    Calls Try.prog 16 #[.int .i64 p, .int .i64 q] w fun e w' => e = .returned (.tuple #[.agg #[.int .i64 (okP (ofOk p q) (lowP p q) (lowQ p q)), .int .i64 (okQ (ofOk p q) (lowP p q) (lowQ p q))], .int .i64 (okC (ofOk p q) 2 (lowP p q) (lowQ p q))]) ∧ Below w.heap.size w w' := by
  cases h1 : (q == 0)
  · cases h2 : inB p (-1000000000000000000) 1000000000000000000
    · have e1 : ofOk p q = false := by simp [ofOk, h1, h2]
      rw [e1]
      go_enter Try.func16, Try.ntmps16
      go_wp2_with (first | (go_at_call 66; refine Calls.mono (in_any _ _ _ _) ?_; rintro e w1 ⟨rfl, rfl⟩))
      exact bodyPost_ret (v := .tuple #[.agg #[.int .i64 0, .int .i64 0], .int .i64 2]) (by simp [results, Try.results16, go_sem]) rfl ⟨rfl, (by (try with_reducible refine bsz ?_); repeat (first | with_reducible exact Below.refl _ _ | ((with_reducible refine bpre ?_); (try simp only [Array.append_assoc]); repeat (first | with_reducible exact Pre.refl _ | with_reducible exact Pre.base _ _ | with_reducible refine Pre.cons _ ?_)) | with_reducible assumption | ((with_reducible refine bsetr ?_); rfl) | with_reducible refine Below.setCell ?_ (by simp <;> omega) _ | with_reducible refine bpl ?_ _ _ | with_reducible refine bal ?_ _ | with_reducible refine bdrew1 ?_ | with_reducible refine bdrew ?_ _))⟩
    · cases h3 : inB q (-1000000000000000000) 1000000000000000000
      · have e1 : ofOk p q = false := by simp [ofOk, h3]
        rw [e1]
        go_enter Try.func16, Try.ntmps16
        go_wp2_with (first | (go_at_call 66; refine Calls.mono (in_any _ _ _ _) ?_; rintro e w1 ⟨rfl, rfl⟩))
        exact bodyPost_ret (v := .tuple #[.agg #[.int .i64 0, .int .i64 0], .int .i64 2]) (by simp [results, Try.results16, go_sem]) rfl ⟨rfl, (by (try with_reducible refine bsz ?_); repeat (first | with_reducible exact Below.refl _ _ | ((with_reducible refine bpre ?_); (try simp only [Array.append_assoc]); repeat (first | with_reducible exact Pre.refl _ | with_reducible exact Pre.base _ _ | with_reducible refine Pre.cons _ ?_)) | with_reducible assumption | ((with_reducible refine bsetr ?_); rfl) | with_reducible refine Below.setCell ?_ (by simp <;> omega) _ | with_reducible refine bpl ?_ _ _ | with_reducible refine bal ?_ _ | with_reducible refine bdrew1 ?_ | with_reducible refine bdrew ?_ _))⟩
      · have e1 : ofOk p q = true := by simp [ofOk, h1, h2, h3]
        have hq : q ≠ 0 := by simpa using h1
        obtain ⟨p1, p2⟩ := inB_iff.1 h2
        obtain ⟨q1, q2⟩ := inB_iff.1 h3
        obtain ⟨l1, l2⟩ := lowP_bd p q (by omega) (by omega)
        rw [e1]
        have F1 := pick_resP (lowP p q) (lowQ p q)
        have F2 := pick_resQ (lowP p q) (lowQ p q)
        have F3 := pick_resC (lowP p q) (lowQ p q)
        go_enter Try.func16, Try.ntmps16
        go_wp2_with (first | (go_at_call 66; refine Calls.mono (in_any _ _ _ _) ?_; rintro e w1 ⟨rfl, rfl⟩) | (go_at_call 69; refine Calls.mono (lowest_any _ _ _ (by omega) (by omega) (by omega) (by omega) hq) ?_; rintro e w1 ⟨rfl, hb⟩; obtain ⟨X, m, rfl⟩ := plsOf hb; clear hb) | (go_at_call 68; refine Calls.mono (kept_any _ _ false _ _ _ l1 l2 (by simp [go_sem]) (by simp [go_sem]) (by simp [go_sem])) ?_; rintro e w1 ⟨rfl, hb⟩; obtain ⟨X, m, rfl⟩ := plsOfS hb; clear hb) | (go_at_call 67; refine Calls.mono (told_any _ _ (!smallB (lowP p q) (lowQ p q)) _ _ _ (by simp [go_sem]) (by simp [go_sem])) ?_; rintro e w1 ⟨rfl, hb⟩; obtain ⟨X, m, rfl⟩ := plsOf hb; clear hb))
        exact bodyPost_ret (v := .tuple #[.agg #[.int .i64 (resP (lowP p q) (lowQ p q)), .int .i64 (resQ (lowP p q) (lowQ p q))], .int .i64 (resC (lowP p q) (lowQ p q))]) (by simp [results, Try.results16, go_sem]) rfl ⟨rfl, (by (try with_reducible refine bsz ?_); repeat (first | with_reducible exact Below.refl _ _ | ((with_reducible refine bpre ?_); (try simp only [Array.append_assoc]); repeat (first | with_reducible exact Pre.refl _ | with_reducible exact Pre.base _ _ | with_reducible refine Pre.cons _ ?_)) | with_reducible assumption | ((with_reducible refine bsetr ?_); rfl) | with_reducible refine Below.setCell ?_ (by simp <;> omega) _ | with_reducible refine bpl ?_ _ _ | with_reducible refine bal ?_ _ | with_reducible refine bdrew1 ?_ | with_reducible refine bdrew ?_ _))⟩
  · have e1 : ofOk p q = false := by simp [ofOk, h1]
    rw [e1]
    go_enter Try.func16, Try.ntmps16
    go_wp2_with (fail)
    exact bodyPost_ret (v := .tuple #[.agg #[.int .i64 0, .int .i64 0], .int .i64 2]) (by simp [results, Try.results16, go_sem]) rfl ⟨rfl, (by (try with_reducible refine bsz ?_); repeat (first | with_reducible exact Below.refl _ _ | ((with_reducible refine bpre ?_); (try simp only [Array.append_assoc]); repeat (first | with_reducible exact Pre.refl _ | with_reducible exact Pre.base _ _ | with_reducible refine Pre.cons _ ?_)) | with_reducible assumption | ((with_reducible refine bsetr ?_); rfl) | with_reducible refine Below.setCell ?_ (by simp <;> omega) _ | with_reducible refine bpl ?_ _ _ | with_reducible refine bal ?_ _ | with_reducible refine bdrew1 ?_ | with_reducible refine bdrew ?_ _))⟩

/-! ### AddFractions -/
theorem add_lit (w : World) (p q r s : Int) (b1 b2 : Nat) (hB1 : b1 < w.heap.size) (hB2 : b2 < w.heap.size) (c0 : w.cell? ⟨b1, 0, none⟩ = some (.int .i64 p)) (c1 : w.cell? ⟨b1, 1, none⟩ = some (.int .i64 q))
    (c2 : w.cell? ⟨b2, 0, none⟩ = some (.int .i64 r)) (c3 : w.cell? ⟨b2, 1, none⟩ = some (.int .i64 s)) (hv : frOk p q = true) (hw : frOk r s = true) :
    Makes 76 #[.pointer (some ⟨b1, 0, none⟩), .pointer (some ⟨b2, 0, none⟩)] w (keptP (addX p q r s) (addY p q r s)) (keptQ (addX p q r s) (addY p q r s)) (!smallB (addX p q r s) (addY p q r s)) := by
  obtain ⟨v1, v2, v3, v4, _⟩ := (frOk_iff p q).1 hv
  obtain ⟨u1, u2, u3, u4, _⟩ := (frOk_iff r s).1 hw
  intro W g hb hg1 hg2 hc hf
  have d0 := bkeep hb c0
  have d1 := bkeep hb c1
  have d2 := bkeep hb c2
  have d3 := bkeep hb c3
  have hB3 : b1 < W.heap.size := by have := hb.size; omega
  have hB4 : b2 < W.heap.size := by have := hb.size; omega
  clear hb c0 c1 c2 c3 hv hw
  go_enter Try.func76, Try.ntmps76
  go_wp2_with (first | (go_at_call 77; refine Calls.mono (add_any g 0 false _ _ _ _ _ (by simp [go_sem, hg2]) (by simp [go_sem, hg2, hc]) (by simp [go_sem, hg2, hf]) (by omega) (by omega) (by omega) (by omega) (by omega) (by omega) (by omega) (by omega)) ?_; rintro e w1 ⟨rfl, hb⟩; obtain ⟨X, m, rfl⟩ := plsOfS hb; clear hb))
  exact bodyPost_ret (v := .agg #[.int .i64 (keptP (addX p q r s) (addY p q r s)), .int .i64 (keptQ (addX p q r s) (addY p q r s))]) (by simp [results, Try.results76, go_sem]) rfl ⟨rfl, (by (try with_reducible refine bsz ?_); repeat (first | with_reducible exact Below.refl _ _ | ((with_reducible refine bpre ?_); (try simp only [Array.append_assoc]); repeat (first | with_reducible exact Pre.refl _ | with_reducible exact Pre.base _ _ | with_reducible refine Pre.cons _ ?_)) | with_reducible assumption | ((with_reducible refine bsetr ?_); rfl) | with_reducible refine Below.setCell ?_ (by simp <;> omega) _ | with_reducible refine bpl ?_ _ _ | with_reducible refine bal ?_ _ | with_reducible refine bdrew1 ?_ | with_reducible refine bdrew ?_ _))⟩

theorem AddFractions_any (p q r s : Int) (w : World) (h1 : -9223372036854775808 ≤ p) (h2 : p ≤ 9223372036854775807) (h3 : -9223372036854775808 ≤ q) (h4 : q ≤ 9223372036854775807)
    (h5 : -9223372036854775808 ≤ r) (h6 : r ≤ 9223372036854775807) (h7 : -9223372036854775808 ≤ s) (h8 : s ≤ 9223372036854775807) :
    Calls Try.prog 22 #[.agg #[.int .i64 p, .int .i64 q], .agg #[.int .i64 r, .int .i64 s]] w fun e w' => e = .returned (.tuple #[.agg #[.int .i64 (okP (frOk p q && frOk r s) (addX p q r s) (addY p q r s)), .int .i64 (okQ (frOk p q && frOk r s) (addX p q r s) (addY p q r s))], .int .i64 (okC (frOk p q && frOk r s) 1 (addX p q r s) (addY p q r s))]) ∧ Below w.heap.size w w' := by
  have eg : ∀ args w, (callFunc 76 args).run Try.prog w = .ok (.enter 76 args) w := enters_of Try.func76 (by kernel_rfl) rfl
  cases hz : frOk p q && frOk r s
  · go_enter Try.func22, Try.ntmps22
    go_wp2_with (first | (go_at_call 72; refine Calls.mono (worked_bad _ _ _ _ _ _ _ h1 h2 h3 h4 h5 h6 h7 h8 hz) ?_; rintro e w1 ⟨rfl, hb⟩; obtain ⟨X, m, rfl⟩ := plsOf hb; clear hb))
    exact bodyPost_ret (v := .tuple #[.agg #[.int .i64 0, .int .i64 0], .int .i64 1]) (by simp [results, Try.results22, go_sem]) rfl ⟨rfl, (by (try with_reducible refine bsz ?_); repeat (first | with_reducible exact Below.refl _ _ | ((with_reducible refine bpre ?_); (try simp only [Array.append_assoc]); repeat (first | with_reducible exact Pre.refl _ | with_reducible exact Pre.base _ _ | with_reducible refine Pre.cons _ ?_)) | with_reducible assumption | ((with_reducible refine bsetr ?_); rfl) | with_reducible refine Below.setCell ?_ (by simp <;> omega) _ | with_reducible refine bpl ?_ _ _ | with_reducible refine bal ?_ _ | with_reducible refine bdrew1 ?_ | with_reducible refine bdrew ?_ _))⟩
  · obtain ⟨hv, hw⟩ := Bool.and_eq_true_iff.1 hz
    clear hz
    have F1 := Lib.hid (pick_resP (addX p q r s) (addY p q r s))
    have F2 := Lib.hid (pick_resQ (addX p q r s) (addY p q r s))
    have F3 := Lib.hid (pick_resC (addX p q r s) (addY p q r s))
    go_enter Try.func22, Try.ntmps22
    go_wp2_with (fail)
    refine (worked_good _ _ _ _ _ _ _ _ _ _ h1 h2 h3 h4 h5 h6 h7 h8 hv hw eg (add_lit _ _ _ _ _ _ _ ?_ ?_ ?_ ?_ ?_ ?_ hv hw)).mono ?_
    iterate 6 (· first | (simp [go_sem]; done) | (simp; omega) | omega)
    rintro e w1 ⟨rfl, hb⟩; obtain ⟨X, m, rfl⟩ := plsOf hb; clear hb
    rw [F1.out, F2.out, F3.out]
    go_wp2_with (fail)
    exact bodyPost_ret (v := .tuple #[.agg #[.int .i64 (resP (addX p q r s) (addY p q r s)), .int .i64 (resQ (addX p q r s) (addY p q r s))], .int .i64 (resC (addX p q r s) (addY p q r s))]) (by simp [results, Try.results22, go_sem]) rfl ⟨rfl, (by (try with_reducible refine bsz ?_); repeat (first | with_reducible exact Below.refl _ _ | ((with_reducible refine bpre ?_); (try simp only [Array.append_assoc]); repeat (first | with_reducible exact Pre.refl _ | with_reducible exact Pre.base _ _ | with_reducible refine Pre.cons _ ?_)) | with_reducible assumption | ((with_reducible refine bsetr ?_); rfl) | with_reducible refine Below.setCell ?_ (by simp <;> omega) _ | with_reducible refine bpl ?_ _ _ | with_reducible refine bal ?_ _ | with_reducible refine bdrew1 ?_ | with_reducible refine bdrew ?_ _))⟩

/-! ### SubFractions -/
theorem sub_lit (w : World) (p q r s : Int) (b1 b2 : Nat) (hB1 : b1 < w.heap.size) (hB2 : b2 < w.heap.size) (c0 : w.cell? ⟨b1, 0, none⟩ = some (.int .i64 p)) (c1 : w.cell? ⟨b1, 1, none⟩ = some (.int .i64 q))
    (c2 : w.cell? ⟨b2, 0, none⟩ = some (.int .i64 r)) (c3 : w.cell? ⟨b2, 1, none⟩ = some (.int .i64 s)) (hv : frOk p q = true) (hw : frOk r s = true) :
    Makes 79 #[.pointer (some ⟨b1, 0, none⟩), .pointer (some ⟨b2, 0, none⟩)] w (keptP (addX p q (-r) s) (addY p q (-r) s)) (keptQ (addX p q (-r) s) (addY p q (-r) s)) (!smallB (addX p q (-r) s) (addY p q (-r) s)) := by
  obtain ⟨v1, v2, v3, v4, _⟩ := (frOk_iff p q).1 hv
  obtain ⟨u1, u2, u3, u4, _⟩ := (frOk_iff r s).1 hw
  intro W g hb hg1 hg2 hc hf
  have d0 := bkeep hb c0
  have d1 := bkeep hb c1
  have d2 := bkeep hb c2
  have d3 := bkeep hb c3
  have hB3 : b1 < W.heap.size := by have := hb.size; omega
  have hB4 : b2 < W.heap.size := by have := hb.size; omega
  clear hb c0 c1 c2 c3 hv hw
  go_enter Try.func79, Try.ntmps79
  go_wp2_with (first | (go_at_call 80; refine Calls.mono (sub_any g 0 false _ _ _ _ _ (by simp [go_sem, hg2]) (by simp [go_sem, hg2, hc]) (by simp [go_sem, hg2, hf]) (by omega) (by omega) (by omega) (by omega) (by omega) (by omega) (by omega) (by omega)) ?_; rintro e w1 ⟨rfl, hb⟩; obtain ⟨X, m, rfl⟩ := plsOfS hb; clear hb))
  exact bodyPost_ret (v := .agg #[.int .i64 (keptP (addX p q (-r) s) (addY p q (-r) s)), .int .i64 (keptQ (addX p q (-r) s) (addY p q (-r) s))]) (by simp [results, Try.results79, go_sem]) rfl ⟨rfl, (by (try with_reducible refine bsz ?_); repeat (first | with_reducible exact Below.refl _ _ | ((with_reducible refine bpre ?_); (try simp only [Array.append_assoc]); repeat (first | with_reducible exact Pre.refl _ | with_reducible exact Pre.base _ _ | with_reducible refine Pre.cons _ ?_)) | with_reducible assumption | ((with_reducible refine bsetr ?_); rfl) | with_reducible refine Below.setCell ?_ (by simp <;> omega) _ | with_reducible refine bpl ?_ _ _ | with_reducible refine bal ?_ _ | with_reducible refine bdrew1 ?_ | with_reducible refine bdrew ?_ _))⟩

theorem SubFractions_any (p q r s : Int) (w : World) (h1 : -9223372036854775808 ≤ p) (h2 : p ≤ 9223372036854775807) (h3 : -9223372036854775808 ≤ q) (h4 : q ≤ 9223372036854775807)
    (h5 : -9223372036854775808 ≤ r) (h6 : r ≤ 9223372036854775807) (h7 : -9223372036854775808 ≤ s) (h8 : s ≤ 9223372036854775807) :
    Calls Try.prog 24 #[.agg #[.int .i64 p, .int .i64 q], .agg #[.int .i64 r, .int .i64 s]] w fun e w' => e = .returned (.tuple #[.agg #[.int .i64 (okP (frOk p q && frOk r s) (addX p q (-r) s) (addY p q (-r) s)), .int .i64 (okQ (frOk p q && frOk r s) (addX p q (-r) s) (addY p q (-r) s))], .int .i64 (okC (frOk p q && frOk r s) 1 (addX p q (-r) s) (addY p q (-r) s))]) ∧ Below w.heap.size w w' := by
  have eg : ∀ args w, (callFunc 79 args).run Try.prog w = .ok (.enter 79 args) w := enters_of Try.func79 (by kernel_rfl) rfl
  cases hz : frOk p q && frOk r s
  · go_enter Try.func24, Try.ntmps24
    go_wp2_with (first | (go_at_call 72; refine Calls.mono (worked_bad _ _ _ _ _ _ _ h1 h2 h3 h4 h5 h6 h7 h8 hz) ?_; rintro e w1 ⟨rfl, hb⟩; obtain ⟨X, m, rfl⟩ := plsOf hb; clear hb))
    exact bodyPost_ret (v := .tuple #[.agg #[.int .i64 0, .int .i64 0], .int .i64 1]) (by simp [results, Try.results24, go_sem]) rfl ⟨rfl, (by (try with_reducible refine bsz ?_); repeat (first | with_reducible exact Below.refl _ _ | ((with_reducible refine bpre ?_); (try simp only [Array.append_assoc]); repeat (first | with_reducible exact Pre.refl _ | with_reducible exact Pre.base _ _ | with_reducible refine Pre.cons _ ?_)) | with_reducible assumption | ((with_reducible refine bsetr ?_); rfl) | with_reducible refine Below.setCell ?_ (by simp <;> omega) _ | with_reducible refine bpl ?_ _ _ | with_reducible refine bal ?_ _ | with_reducible refine bdrew1 ?_ | with_reducible refine bdrew ?_ _))⟩
  · obtain ⟨hv, hw⟩ := Bool.and_eq_true_iff.1 hz
    clear hz
    have F1 := Lib.hid (pick_resP (addX p q (-r) s) (addY p q (-r) s))
    have F2 := Lib.hid (pick_resQ (addX p q (-r) s) (addY p q (-r) s))
    have F3 := Lib.hid (pick_resC (addX p q (-r) s) (addY p q (-r) s))
    go_enter Try.func24, Try.ntmps24
    go_wp2_with (fail)
    refine (worked_good _ _ _ _ _ _ _ _ _ _ h1 h2 h3 h4 h5 h6 h7 h8 hv hw eg (sub_lit _ _ _ _ _ _ _ ?_ ?_ ?_ ?_ ?_ ?_ hv hw)).mono ?_
    iterate 6 (· first | (simp [go_sem]; done) | (simp; omega) | omega)
    rintro e w1 ⟨rfl, hb⟩; obtain ⟨X, m, rfl⟩ := plsOf hb; clear hb
    rw [F1.out, F2.out, F3.out]
    go_wp2_with (fail)
    exact bodyPost_ret (v := .tuple #[.agg #[.int .i64 (resP (addX p q (-r) s) (addY p q (-r) s)), .int .i64 (resQ (addX p q (-r) s) (addY p q (-r) s))], .int .i64 (resC (addX p q (-r) s) (addY p q (-r) s))]) (by simp [results, Try.results24, go_sem]) rfl ⟨rfl, (by (try with_reducible refine bsz ?_); repeat (first | with_reducible exact Below.refl _ _ | ((with_reducible refine bpre ?_); (try simp only [Array.append_assoc]); repeat (first | with_reducible exact Pre.refl _ | with_reducible exact Pre.base _ _ | with_reducible refine Pre.cons _ ?_)) | with_reducible assumption | ((with_reducible refine bsetr ?_); rfl) | with_reducible refine Below.setCell ?_ (by simp <;> omega) _ | with_reducible refine bpl ?_ _ _ | with_reducible refine bal ?_ _ | with_reducible refine bdrew1 ?_ | with_reducible refine bdrew ?_ _))⟩

/-! ### MulFractions -/
theorem mul_lit (w : World) (p q r s : Int) (b1 b2 : Nat) (hB1 : b1 < w.heap.size) (hB2 : b2 < w.heap.size) (c0 : w.cell? ⟨b1, 0, none⟩ = some (.int .i64 p)) (c1 : w.cell? ⟨b1, 1, none⟩ = some (.int .i64 q))
    (c2 : w.cell? ⟨b2, 0, none⟩ = some (.int .i64 r)) (c3 : w.cell? ⟨b2, 1, none⟩ = some (.int .i64 s)) (hv : frOk p q = true) (hw : frOk r s = true) :
    Makes 73 #[.pointer (some ⟨b1, 0, none⟩), .pointer (some ⟨b2, 0, none⟩)] w (keptP (mulX p q r s) (mulY p q r s)) (keptQ (mulX p q r s) (mulY p q r s)) (!smallB (mulX p q r s) (mulY p q r s)) := by
  obtain ⟨v1, v2, v3, v4, _⟩ := (frOk_iff p q).1 hv
  obtain ⟨u1, u2, u3, u4, _⟩ := (frOk_iff r s).1 hw
  intro W g hb hg1 hg2 hc hf
  have d0 := bkeep hb c0
  have d1 := bkeep hb c1
  have d2 := bkeep hb c2
  have d3 := bkeep hb c3
  have hB3 : b1 < W.heap.size := by have := hb.size; omega
  have hB4 : b2 < W.heap.size := by have := hb.size; omega
  clear hb c0 c1 c2 c3 hv hw
  go_enter Try.func73, Try.ntmps73
  go_wp2_with (first | (go_at_call 74; refine Calls.mono (mul_any g 0 false _ _ _ _ _ (by simp [go_sem, hg2]) (by simp [go_sem, hg2, hc]) (by simp [go_sem, hg2, hf]) (by omega) (by omega) (by omega) (by omega) (by omega) (by omega) (by omega) (by omega)) ?_; rintro e w1 ⟨rfl, hb⟩; obtain ⟨X, m, rfl⟩ := plsOfS hb; clear hb))
  exact bodyPost_ret (v := .agg #[.int .i64 (keptP (mulX p q r s) (mulY p q r s)), .int .i64 (keptQ (mulX p q r s) (mulY p q r s))]) (by simp [results, Try.results73, go_sem]) rfl ⟨rfl, (by (try with_reducible refine bsz ?_); repeat (first | with_reducible exact Below.refl _ _ | ((with_reducible refine bpre ?_); (try simp only [Array.append_assoc]); repeat (first | with_reducible exact Pre.refl _ | with_reducible exact Pre.base _ _ | with_reducible refine Pre.cons _ ?_)) | with_reducible assumption | ((with_reducible refine bsetr ?_); rfl) | with_reducible refine Below.setCell ?_ (by simp <;> omega) _ | with_reducible refine bpl ?_ _ _ | with_reducible refine bal ?_ _ | with_reducible refine bdrew1 ?_ | with_reducible refine bdrew ?_ _))⟩

theorem MulFractions_any (p q r s : Int) (w : World) (h1 : -9223372036854775808 ≤ p) (h2 : p ≤ 9223372036854775807) (h3 : -9223372036854775808 ≤ q) (h4 : q ≤ 9223372036854775807)
    (h5 : -9223372036854775808 ≤ r) (h6 : r ≤ 9223372036854775807) (h7 : -9223372036854775808 ≤ s) (h8 : s ≤ 9223372036854775807) :
    Calls Try.prog 20 #[.agg #[.int .i64 p, .int .i64 q], .agg #[.int .i64 r, .int .i64 s]] w fun e w' => e = .returned (.tuple #[.agg #[.int .i64 (okP (frOk p q && frOk r s) (mulX p q r s) (mulY p q r s)), .int .i64 (okQ (frOk p q && frOk r s) (mulX p q r s) (mulY p q r s))], .int .i64 (okC (frOk p q && frOk r s) 1 (mulX p q r s) (mulY p q r s))]) ∧ Below w.heap.size w w' := by
  have eg : ∀ args w, (callFunc 73 args).run Try.prog w = .ok (.enter 73 args) w := enters_of Try.func73 (by kernel_rfl) rfl
  cases hz : frOk p q && frOk r s
  · go_enter Try.func20, Try.ntmps20
    go_wp2_with (first | (go_at_call 72; refine Calls.mono (worked_bad _ _ _ _ _ _ _ h1 h2 h3 h4 h5 h6 h7 h8 hz) ?_; rintro e w1 ⟨rfl, hb⟩; obtain ⟨X, m, rfl⟩ := plsOf hb; clear hb))
    exact bodyPost_ret (v := .tuple #[.agg #[.int .i64 0, .int .i64 0], .int .i64 1]) (by simp [results, Try.results20, go_sem]) rfl ⟨rfl, (by (try with_reducible refine bsz ?_); repeat (first | with_reducible exact Below.refl _ _ | ((with_reducible refine bpre ?_); (try simp only [Array.append_assoc]); repeat (first | with_reducible exact Pre.refl _ | with_reducible exact Pre.base _ _ | with_reducible refine Pre.cons _ ?_)) | with_reducible assumption | ((with_reducible refine bsetr ?_); rfl) | with_reducible refine Below.setCell ?_ (by simp <;> omega) _ | with_reducible refine bpl ?_ _ _ | with_reducible refine bal ?_ _ | with_reducible refine bdrew1 ?_ | with_reducible refine bdrew ?_ _))⟩
  · obtain ⟨hv, hw⟩ := Bool.and_eq_true_iff.1 hz
    clear hz
    have F1 := Lib.hid (pick_resP (mulX p q r s) (mulY p q r s))
    have F2 := Lib.hid (pick_resQ (mulX p q r s) (mulY p q r s))
    have F3 := Lib.hid (pick_resC (mulX p q r s) (mulY p q r s))
    go_enter Try.func20, Try.ntmps20
    go_wp2_with (fail)
    refine (worked_good _ _ _ _ _ _ _ _ _ _ h1 h2 h3 h4 h5 h6 h7 h8 hv hw eg (mul_lit _ _ _ _ _ _ _ ?_ ?_ ?_ ?_ ?_ ?_ hv hw)).mono ?_
    iterate 6 (· first | (simp [go_sem]; done) | (simp; omega) | omega)
    rintro e w1 ⟨rfl, hb⟩; obtain ⟨X, m, rfl⟩ := plsOf hb; clear hb
    rw [F1.out, F2.out, F3.out]
    go_wp2_with (fail)
    exact bodyPost_ret (v := .tuple #[.agg #[.int .i64 (resP (mulX p q r s) (mulY p q r s)), .int .i64 (resQ (mulX p q r s) (mulY p q r s))], .int .i64 (resC (mulX p q r s) (mulY p q r s))]) (by simp [results, Try.results20, go_sem]) rfl ⟨rfl, (by (try with_reducible refine bsz ?_); repeat (first | with_reducible exact Below.refl _ _ | ((with_reducible refine bpre ?_); (try simp only [Array.append_assoc]); repeat (first | with_reducible exact Pre.refl _ | with_reducible exact Pre.base _ _ | with_reducible refine Pre.cons _ ?_)) | with_reducible assumption | ((with_reducible refine bsetr ?_); rfl) | with_reducible refine Below.setCell ?_ (by simp <;> omega) _ | with_reducible refine bpl ?_ _ _ | with_reducible refine bal ?_ _ | with_reducible refine bdrew1 ?_ | with_reducible refine bdrew ?_ _))⟩

/-! ### DivFractions -/
theorem div_lit (w : World) (p q r s : Int) (b1 b2 : Nat) (hB1 : b1 < w.heap.size) (hB2 : b2 < w.heap.size) (c0 : w.cell? ⟨b1, 0, none⟩ = some (.int .i64 p)) (c1 : w.cell? ⟨b1, 1, none⟩ = some (.int .i64 q))
    (c2 : w.cell? ⟨b2, 0, none⟩ = some (.int .i64 r)) (c3 : w.cell? ⟨b2, 1, none⟩ = some (.int .i64 s)) (hv : frOk p q = true) (hw : frOk r s = true) (hr : r ≠ 0) :
    Makes 83 #[.pointer (some ⟨b1, 0, none⟩), .pointer (some ⟨b2, 0, none⟩)] w (keptP (divX p q r s) (divY p q r s)) (keptQ (divX p q r s) (divY p q r s)) (!smallB (divX p q r s) (divY p q r s)) := by
  obtain ⟨v1, v2, v3, v4, _⟩ := (frOk_iff p q).1 hv
  obtain ⟨u1, u2, u3, u4, _⟩ := (frOk_iff r s).1 hw
  intro W g hb hg1 hg2 hc hf
  have d0 := bkeep hb c0
  have d1 := bkeep hb c1
  have d2 := bkeep hb c2
  have d3 := bkeep hb c3
  have hB3 : b1 < W.heap.size := by have := hb.size; omega
  have hB4 : b2 < W.heap.size := by have := hb.size; omega
  clear hb c0 c1 c2 c3 hv hw
  go_enter Try.func83, Try.ntmps83
  go_wp2_with (first | (go_at_call 84; refine Calls.mono (div_any g 0 false _ _ _ _ _ (by simp [go_sem, hg2]) (by simp [go_sem, hg2, hc]) (by simp [go_sem, hg2, hf]) (by omega) (by omega) (by omega) (by omega) (by omega) (by omega) (by omega) (by omega) hr) ?_; rintro e w1 ⟨rfl, hb⟩; obtain ⟨X, m, rfl⟩ := plsOfS hb; clear hb))
  exact bodyPost_ret (v := .agg #[.int .i64 (keptP (divX p q r s) (divY p q r s)), .int .i64 (keptQ (divX p q r s) (divY p q r s))]) (by simp [results, Try.results83, go_sem]) rfl ⟨rfl, (by (try with_reducible refine bsz ?_); repeat (first | with_reducible exact Below.refl _ _ | ((with_reducible refine bpre ?_); (try simp only [Array.append_assoc]); repeat (first | with_reducible exact Pre.refl _ | with_reducible exact Pre.base _ _ | with_reducible refine Pre.cons _ ?_)) | with_reducible assumption | ((with_reducible refine bsetr ?_); rfl) | with_reducible refine Below.setCell ?_ (by simp <;> omega) _ | with_reducible refine bpl ?_ _ _ | with_reducible refine bal ?_ _ | with_reducible refine bdrew1 ?_ | with_reducible refine bdrew ?_ _))⟩

theorem DivFractions_any (p q r s : Int) (w : World) (h1 : -9223372036854775808 ≤ p) (h2 : p ≤ 9223372036854775807) (h3 : -9223372036854775808 ≤ q) (h4 : q ≤ 9223372036854775807)
    (h5 : -9223372036854775808 ≤ r) (h6 : r ≤ 9223372036854775807) (h7 : -9223372036854775808 ≤ s) (h8 : s ≤ 9223372036854775807) :
    Calls Try.prog 26 #[.agg #[.int .i64 p, .int .i64 q], .agg #[.int .i64 r, .int .i64 s]] w fun e w' => e = .returned (.tuple #[.agg #[.int .i64 (okP (frOk p q && frOk r s && !(r == 0)) (divX p q r s) (divY p q r s)), .int .i64 (okQ (frOk p q && frOk r s && !(r == 0)) (divX p q r s) (divY p q r s))], .int .i64 (okC (frOk p q && frOk r s && !(r == 0)) (divE p q r s) (divX p q r s) (divY p q r s))]) ∧ Below w.heap.size w w' := by
  have eg : ∀ args w, (callFunc 83 args).run Try.prog w = .ok (.enter 83 args) w := enters_of Try.func83 (by kernel_rfl) rfl
  cases hz : frOk p q && frOk r s
  · have hE : divE p q r s = 1 := by simp [divE, hz]
    rw [Bool.false_and, hE]
    clear hE
    cases hv : frOk p q
    · go_enter Try.func26, Try.ntmps26
      go_wp2_with (first | (go_at_call 82; refine Calls.mono (valid_any _ _ _ h1 h2 h3 h4) ?_; rintro e w1 ⟨rfl, hb⟩; obtain ⟨X, m, rfl⟩ := plsOf hb; clear hb) | (go_at_call 72; refine Calls.mono (worked_bad _ _ _ _ _ _ _ h1 h2 h3 h4 h5 h6 h7 h8 hz) ?_; rintro e w1 ⟨rfl, hb⟩; obtain ⟨X, m, rfl⟩ := plsOf hb; clear hb))
      exact bodyPost_ret (v := .tuple #[.agg #[.int .i64 0, .int .i64 0], .int .i64 1]) (by simp [results, Try.results26, go_sem]) rfl ⟨rfl, (by (try with_reducible refine bsz ?_); repeat (first | with_reducible exact Below.refl _ _ | ((with_reducible refine bpre ?_); (try simp only [Array.append_assoc]); repeat (first | with_reducible exact Pre.refl _ | with_reducible exact Pre.base _ _ | with_reducible refine Pre.cons _ ?_)) | with_reducible assumption | ((with_reducible refine bsetr ?_); rfl) | with_reducible refine Below.setCell ?_ (by simp <;> omega) _ | with_reducible refine bpl ?_ _ _ | with_reducible refine bal ?_ _ | with_reducible refine bdrew1 ?_ | with_reducible refine bdrew ?_ _))⟩
    · have hw : frOk r s = false := by rw [hv, Bool.true_and] at hz; exact hz
      go_enter Try.func26, Try.ntmps26
      go_wp2_with (fail)
      refine (valid_any _ _ _ h1 h2 h3 h4).mono ?_; rintro e w1 ⟨rfl, hb⟩; obtain ⟨X, m, rfl⟩ := plsOf hb; clear hb
      go_wp2_with (first | (go_at_call 82; refine Calls.mono (valid_any _ _ _ h5 h6 h7 h8) ?_; rintro e w1 ⟨rfl, hb⟩; obtain ⟨X, m, rfl⟩ := plsOf hb; clear hb) | (go_at_call 72; refine Calls.mono (worked_bad _ _ _ _ _ _ _ h1 h2 h3 h4 h5 h6 h7 h8 hz) ?_; rintro e w1 ⟨rfl, hb⟩; obtain ⟨X, m, rfl⟩ := plsOf hb; clear hb))
      exact bodyPost_ret (v := .tuple #[.agg #[.int .i64 0, .int .i64 0], .int .i64 1]) (by simp [results, Try.results26, go_sem]) rfl ⟨rfl, (by (try with_reducible refine bsz ?_); repeat (first | with_reducible exact Below.refl _ _ | ((with_reducible refine bpre ?_); (try simp only [Array.append_assoc]); repeat (first | with_reducible exact Pre.refl _ | with_reducible exact Pre.base _ _ | with_reducible refine Pre.cons _ ?_)) | with_reducible assumption | ((with_reducible refine bsetr ?_); rfl) | with_reducible refine Below.setCell ?_ (by simp <;> omega) _ | with_reducible refine bpl ?_ _ _ | with_reducible refine bal ?_ _ | with_reducible refine bdrew1 ?_ | with_reducible refine bdrew ?_ _))⟩
  · cases hr0 : (r == 0)
    · have hE : Hid (r ≠ 0) := by show r ≠ 0; simpa using hr0
      obtain ⟨hv, hw⟩ := Bool.and_eq_true_iff.1 hz
      rw [Bool.not_false, Bool.and_true]
      clear hz
      have F1 := Lib.hid (pick_resP (divX p q r s) (divY p q r s))
      have F2 := Lib.hid (pick_resQ (divX p q r s) (divY p q r s))
      have F3 := Lib.hid (pick_resC (divX p q r s) (divY p q r s))
      go_enter Try.func26, Try.ntmps26
      go_wp2_with (fail)
      refine (valid_any _ _ _ h1 h2 h3 h4).mono ?_; rintro e w1 ⟨rfl, hb⟩; obtain ⟨X, m, rfl⟩ := plsOf hb; clear hb
      go_wp2_with (fail)
      refine (valid_any _ _ _ h5 h6 h7 h8).mono ?_; rintro e w1 ⟨rfl, hb⟩; obtain ⟨X, m, rfl⟩ := plsOf hb; clear hb
      go_wp2_with (fail)
      refine (worked_good _ _ _ _ _ _ _ _ _ _ h1 h2 h3 h4 h5 h6 h7 h8 hv hw eg (div_lit _ _ _ _ _ _ _ ?_ ?_ ?_ ?_ ?_ ?_ hv hw hE.out)).mono ?_
      iterate 6 (· first | (simp [go_sem]; done) | (simp; omega) | omega)
      rintro e w1 ⟨rfl, hb⟩; obtain ⟨X, m, rfl⟩ := plsOf hb; clear hb
      rw [F1.out, F2.out, F3.out]
      go_wp2_with (fail)
      exact bodyPost_ret (v := .tuple #[.agg #[.int .i64 (resP (divX p q r s) (divY p q r s)), .int .i64 (resQ (divX p q r s) (divY p q r s))], .int .i64 (resC (divX p q r s) (divY p q r s))]) (by simp [results, Try.results26, go_sem]) rfl ⟨rfl, (by (try with_reducible refine bsz ?_); repeat (first | with_reducible exact Below.refl _ _ | ((with_reducible refine bpre ?_); (try simp only [Array.append_assoc]); repeat (first | with_reducible exact Pre.refl _ | with_reducible exact Pre.base _ _ | with_reducible refine Pre.cons _ ?_)) | with_reducible assumption | ((with_reducible refine bsetr ?_); rfl) | with_reducible refine Below.setCell ?_ (by simp <;> omega) _ | with_reducible refine bpl ?_ _ _ | with_reducible refine bal ?_ _ | with_reducible refine bdrew1 ?_ | with_reducible refine bdrew ?_ _))⟩
    · have hE : divE p q r s = 4 := by simp [divE, hz]
      obtain ⟨hv, hw⟩ := Bool.and_eq_true_iff.1 hz
      rw [Bool.not_true, Bool.and_false, hE]
      clear hz hE
      go_enter Try.func26, Try.ntmps26
      go_wp2_with (fail)
      refine (valid_any _ _ _ h1 h2 h3 h4).mono ?_; rintro e w1 ⟨rfl, hb⟩; obtain ⟨X, m, rfl⟩ := plsOf hb; clear hb
      go_wp2_with (fail)
      refine (valid_any _ _ _ h5 h6 h7 h8).mono ?_; rintro e w1 ⟨rfl, hb⟩; obtain ⟨X, m, rfl⟩ := plsOf hb; clear hb
      go_wp2_with (fail)
      exact bodyPost_ret (v := .tuple #[.agg #[.int .i64 0, .int .i64 0], .int .i64 4]) (by simp [results, Try.results26, go_sem]) rfl ⟨rfl, (by (try with_reducible refine bsz ?_); repeat (first | with_reducible exact Below.refl _ _ | ((with_reducible refine bpre ?_); (try simp only [Array.append_assoc]); repeat (first | with_reducible exact Pre.refl _ | with_reducible exact Pre.base _ _ | with_reducible refine Pre.cons _ ?_)) | with_reducible assumption | ((with_reducible refine bsetr ?_); rfl) | with_reducible refine Below.setCell ?_ (by simp <;> omega) _ | with_reducible refine bpl ?_ _ _ | with_reducible refine bal ?_ _ | with_reducible refine bdrew1 ?_ | with_reducible refine bdrew ?_ _))⟩
end Go.Proofs.Ytnajolfiikamcaa

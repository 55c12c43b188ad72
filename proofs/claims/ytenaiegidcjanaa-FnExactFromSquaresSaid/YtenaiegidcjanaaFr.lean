/- What the program's functions on single fractions return: the gcd, lowest terms, the sums that keep 0 where a fraction is too large. -/
import Derived.Test.YtenaiegidcjanaaProg
import Derived.Test.YtenaiegidcjanaaBase
namespace Go.Proofs.Ytenaiegidcjanaa
open Go.RowKit
set_option linter.unusedVariables false
set_option linter.unusedSimpArgs false

theorem size_any (n : Int) (w : World) (h : -9223372036854775808 < n) (h2 : n ≤ 9223372036854775807) :
    Calls Try.prog 76 #[.int .i64 n] w fun e w' => e = .returned (.int .i64 (absI n)) ∧ w = w' := by
  go_enter Try.func76, Try.ntmps76
  go_wp2
  all_goals go_ret
  all_goals exact ⟨ret_int (by unfold absI; omega), rfl⟩

theorem gcd_any (a b : Int) (w : World) (h : -9223372036854775808 < a) (h2 : a ≤ 9223372036854775807) (h3 : -9223372036854775808 < b) (h4 : b ≤ 9223372036854775807) :
    Calls Try.prog 73 #[.int .i64 a, .int .i64 b] w fun e w' => e = .returned (.int .i64 (Int.gcd a b : Int)) ∧ ∃ n, w' = w.drewN n := by
  go_enter Try.func73, Try.ntmps73
  go_wp2
  go_loopw [0, 1] (fun u v w' => ∃ x y : Int, u = .int .i64 x ∧ v = .int .i64 y ∧ -9223372036854775808 < x ∧ x ≤ 9223372036854775807 ∧ -9223372036854775808 < y ∧ y ≤ 9223372036854775807 ∧ Hid (Int.gcd x y = Int.gcd a b) ∧ ∃ n, w' = w.drewN n) (fun _ v _ => (intOf v).natAbs)
  case atStart => exact ⟨a, b, rfl, rfl, h, h2, h3, h4, rfl, 0, rfl⟩
  case round =>
    obtain ⟨x, y, rfl, rfl, hx1, hx2, hy1, hy2, H, n, rfl⟩ := hrel
    by_cases hy : y = 0
    · subst hy
      go_wp2_with (go_at_call 76; refine (size_any _ _ (by omega) (by omega)).mono ?_; rintro e w' ⟨rfl, rfl⟩)
      go_ret
      exact ⟨ret_int (by rw [← H.out, Int.gcd_zero_right]; rfl), n, rfl⟩
    · have hb1 : (y == 0) = false := by simpa using hy
      have hb2 : (y != 0) = true := by simpa using hy
      have t1 : (x.tmod y).natAbs < y.natAbs := by rw [Int.natAbs_tmod]; exact Nat.mod_lt _ (by omega)
      go_wp2
      go_quiet (fail)
      go_wp2
      go_roundw
      case rel => exact ⟨y, x.tmod y, rfl, rfl, by omega, by omega, by omega, by omega, (by have := gcd_step x y; rw [this]; exact H.out), _, World.drewN_drewN _ _ _⟩
      case measure => simp only [intOf]; omega

theorem lowest_any (p q : Int) (w : World) (h : -9223372036854775808 < p) (h2 : p ≤ 9223372036854775807) (h3 : -9223372036854775808 < q) (h4 : q ≤ 9223372036854775807) (hq : q ≠ 0) :
    Calls Try.prog 60 #[.int .i64 p, .int .i64 q] w fun e w' => e = .returned (.agg #[.int .i64 (lowP p q), .int .i64 (lowQ p q)]) ∧ Below w.heap.size w w' := by
  have hg := gcd_pos' p q hq
  have hg2 := gcd_le' p q hq
  have hg3 : ((Int.gcd p q : Int) == 0) = false := by rw [beq_eq_false_iff_ne]; omega
  have hg4 : ((-(Int.gcd p q : Int)) == 0) = false := by rw [beq_eq_false_iff_ne]; omega
  obtain ⟨tp1, tp2⟩ := tdiv_bd p (Int.gcd p q) h h2
  obtain ⟨tq1, tq2⟩ := tdiv_bd q (Int.gcd p q) h3 h4
  by_cases hn : q < 0
  · have e1 : lowP p q = -(p.tdiv (Int.gcd p q)) := if_pos hn
    have e2 : lowQ p q = -(q.tdiv (Int.gcd p q)) := if_pos hn
    rw [e1, e2]
    clear e1 e2
    go_enter Try.func60, Try.ntmps60
    go_wp2_with (go_at_call 73; refine (gcd_any _ _ _ (by omega) (by omega) (by omega) (by omega)).mono ?_; rintro e w' ⟨rfl, n, rfl⟩)
    go_region
    go_wp2
    exact bodyPost_ret (v := .agg #[.int .i64 (-(p.tdiv (Int.gcd p q))), .int .i64 (-(q.tdiv (Int.gcd p q)))]) (by simp [results, Try.results60, go_sem]) rfl ⟨rfl, (((bdrew (Below.refl _ _) _).alloc (Nat.le_refl _) _).setCell (by simp) _).setCell (by simp) _⟩
  · have e1 : lowP p q = (p.tdiv (Int.gcd p q)) := if_neg hn
    have e2 : lowQ p q = (q.tdiv (Int.gcd p q)) := if_neg hn
    rw [e1, e2]
    clear e1 e2
    go_enter Try.func60, Try.ntmps60
    go_wp2_with (go_at_call 73; refine (gcd_any _ _ _ (by omega) (by omega) (by omega) (by omega)).mono ?_; rintro e w' ⟨rfl, n, rfl⟩)
    go_region
    go_wp2
    exact bodyPost_ret (v := .agg #[.int .i64 (p.tdiv (Int.gcd p q)), .int .i64 (q.tdiv (Int.gcd p q))]) (by simp [results, Try.results60, go_sem]) rfl ⟨rfl, (((bdrew (Below.refl _ _) _).alloc (Nat.le_refl _) _).setCell (by simp) _).setCell (by simp) _⟩

theorem small_any (p q : Int) (w : World) (h : -9223372036854775808 < p) (h2 : p ≤ 9223372036854775807) :
    Calls Try.prog 72 #[.agg #[.int .i64 p, .int .i64 q]] w fun e w' => e = .returned (.bool (smallB p q)) ∧ Below w.heap.size w w' := by
  unfold smallB
  go_enter Try.func72, Try.ntmps72
  obtain ⟨i1, i2⟩ := absI_bd p
  by_cases hs : absI p ≤ 1000000000
  · rw [decide_eq_true hs, Bool.true_and]
    go_wp2_with (go_at_call 76; refine (size_any _ _ (by omega) (by omega)).mono ?_; rintro e w' ⟨rfl, rfl⟩)
    go_ret
    exact ⟨rfl, (Below.refl _ _).alloc (Nat.le_refl _) _⟩
  · rw [decide_eq_false hs, Bool.false_and]
    go_wp2_with (go_at_call 76; refine (size_any _ _ (by omega) (by omega)).mono ?_; rintro e w' ⟨rfl, rfl⟩)
    go_ret
    exact ⟨rfl, (Below.refl _ _).alloc (Nat.le_refl _) _⟩

theorem zero_any (w : World) :
    Calls Try.prog 40 #[] w fun e w' => e = .returned (.agg #[.int .i64 0, .int .i64 1]) ∧ Below w.heap.size w w' := by
  go_enter Try.func40, Try.ntmps40
  go_wp2
  exact bodyPost_ret (v := .agg #[.int .i64 0, .int .i64 1]) (by simp [results, Try.results40, go_sem]) rfl ⟨rfl, bal (Below.refl _ _) _⟩

theorem kept_any (b o : Nat) (g : Bool) (p q : Int) (w : World) (h : -9223372036854775808 < p) (h2 : p ≤ 9223372036854775807) (ha : b < w.heap.size)
    (hc : w.cell? ⟨b, o, none⟩ = some (.bool g)) (hf : w.frozen? ⟨b, o, none⟩ = false) :
    Calls Try.prog 59 #[.pointer (some ⟨b, o, none⟩), .agg #[.int .i64 p, .int .i64 q]] w fun e w' => e = .returned (.agg #[.int .i64 (keptP p q), .int .i64 (keptQ p q)]) ∧ Below w.heap.size (w.setCell ⟨b, o, none⟩ (.bool (g || !smallB p q))) w' := by
  cases hs : smallB p q
  · go_enter Try.func59, Try.ntmps59
    go_wp2_with (first | (go_at_call 72; refine Calls.mono (small_any _ _ _ h h2) ?_; rintro e w1 ⟨rfl, hb⟩; obtain ⟨X, m, rfl⟩ := plsOf hb; clear hb) | (go_at_call 40; refine Calls.mono (zero_any _) ?_; rintro e w1 ⟨rfl, hb⟩; obtain ⟨X, m, rfl⟩ := plsOf hb; clear hb))
    rw [Bool.not_false, Bool.or_true]
    exact bodyPost_ret (v := .agg #[.int .i64 0, .int .i64 1]) (by simp [results, Try.results59, go_sem]) rfl ⟨by simp [keptP, keptQ, hs], (by (try with_reducible refine bsz ?_); repeat (first | with_reducible exact Below.refl _ _ | ((with_reducible refine bpre ?_); (try simp only [Array.append_assoc]); repeat (first | with_reducible exact Pre.refl _ | with_reducible exact Pre.base _ _ | with_reducible refine Pre.cons _ ?_)) | with_reducible assumption | ((with_reducible refine bsetr ?_); rfl) | with_reducible refine Below.setCell ?_ (by simp <;> omega) _ | with_reducible refine bpl ?_ _ _ | with_reducible refine bal ?_ _ | with_reducible refine bdrew1 ?_ | with_reducible refine bdrew ?_ _))⟩
  · go_enter Try.func59, Try.ntmps59
    go_wp2_with (first | (go_at_call 72; refine Calls.mono (small_any _ _ _ h h2) ?_; rintro e w1 ⟨rfl, hb⟩; obtain ⟨X, m, rfl⟩ := plsOf hb; clear hb) | (go_at_call 40; refine Calls.mono (zero_any _) ?_; rintro e w1 ⟨rfl, hb⟩; obtain ⟨X, m, rfl⟩ := plsOf hb; clear hb))
    rw [Bool.not_true, Bool.or_false, setCell_same _ _ _ hc]
    exact bodyPost_ret (v := .agg #[.int .i64 p, .int .i64 q]) (by simp [results, Try.results59, go_sem]) rfl ⟨by simp [keptP, keptQ, hs], (by (try with_reducible refine bsz ?_); repeat (first | with_reducible exact Below.refl _ _ | ((with_reducible refine bpre ?_); (try simp only [Array.append_assoc]); repeat (first | with_reducible exact Pre.refl _ | with_reducible exact Pre.base _ _ | with_reducible refine Pre.cons _ ?_)) | with_reducible assumption | ((with_reducible refine bsetr ?_); rfl) | with_reducible refine Below.setCell ?_ (by simp <;> omega) _ | with_reducible refine bpl ?_ _ _ | with_reducible refine bal ?_ _ | with_reducible refine bdrew1 ?_ | with_reducible refine bdrew ?_ _))⟩
theorem add_any (b o : Nat) (g : Bool) (p q r s : Int) (w : World) (ha : b < w.heap.size) (hc : w.cell? ⟨b, o, none⟩ = some (.bool g)) (hf : w.frozen? ⟨b, o, none⟩ = false)
    (h1 : -1000000000 ≤ p) (h2 : p ≤ 1000000000) (h3 : 1 ≤ q) (h4 : q ≤ 1000000000) (h5 : -1000000000 ≤ r) (h6 : r ≤ 1000000000) (h7 : 1 ≤ s) (h8 : s ≤ 1000000000) :
    Calls Try.prog 42 #[.pointer (some ⟨b, o, none⟩), .agg #[.int .i64 p, .int .i64 q], .agg #[.int .i64 r, .int .i64 s]] w fun e w' => e = .returned (.agg #[.int .i64 (keptP (addX p q r s) (addY p q r s)), .int .i64 (keptQ (addX p q r s) (addY p q r s))]) ∧ Below w.heap.size (w.setCell ⟨b, o, none⟩ (.bool (g || !smallB (addX p q r s) (addY p q r s)))) w' := by
  obtain ⟨b1, b2⟩ := mul_bd p s h1 h2 (by omega) h8
  obtain ⟨b3, b4⟩ := mul_bd r q h5 h6 (by omega) h4
  obtain ⟨b5, b6⟩ := mul_bd q s (by omega) h4 (by omega) h8
  have b7 := Int.mul_pos (show 0 < q by omega) (show 0 < s by omega)
  obtain ⟨l1, l2⟩ := lowP_bd (p * s + r * q) (q * s) (by omega) (by omega)
  go_enter Try.func42, Try.ntmps42
  go_wp2_with (first | (go_at_call 60; refine Calls.mono (lowest_any _ _ _ (by omega) (by omega) (by omega) (by omega) (by omega)) ?_; rintro e w1 ⟨rfl, hb⟩; obtain ⟨X, m, rfl⟩ := plsOf hb; clear hb) | (go_at_call 59; refine Calls.mono (kept_any b o g _ _ _ l1 l2 (by simp [go_sem, ha]) (by simp [go_sem, ha, hc]) (by simp [go_sem, ha, hf])) ?_; rintro e w1 ⟨rfl, hb⟩; obtain ⟨X, m, rfl⟩ := plsOfS hb; clear hb))
  exact bodyPost_ret (v := .agg #[.int .i64 (keptP (addX p q r s) (addY p q r s)), .int .i64 (keptQ (addX p q r s) (addY p q r s))]) (by simp [results, Try.results42, go_sem, addX, addY]) rfl ⟨rfl, (by (try with_reducible refine bsz ?_); repeat (first | with_reducible exact Below.refl _ _ | ((with_reducible refine bpre ?_); (try simp only [Array.append_assoc]); repeat (first | with_reducible exact Pre.refl _ | with_reducible exact Pre.base _ _ | with_reducible refine Pre.cons _ ?_)) | with_reducible assumption | ((with_reducible refine bsetr ?_); rfl) | with_reducible refine Below.setCell ?_ (by simp <;> omega) _ | with_reducible refine bpl ?_ _ _ | with_reducible refine bal ?_ _ | with_reducible refine bdrew1 ?_ | with_reducible refine bdrew ?_ _))⟩

theorem mul_any (b o : Nat) (g : Bool) (p q r s : Int) (w : World) (ha : b < w.heap.size) (hc : w.cell? ⟨b, o, none⟩ = some (.bool g)) (hf : w.frozen? ⟨b, o, none⟩ = false)
    (h1 : -1000000000 ≤ p) (h2 : p ≤ 1000000000) (h3 : 1 ≤ q) (h4 : q ≤ 1000000000) (h5 : -1000000000 ≤ r) (h6 : r ≤ 1000000000) (h7 : 1 ≤ s) (h8 : s ≤ 1000000000) :
    Calls Try.prog 43 #[.pointer (some ⟨b, o, none⟩), .agg #[.int .i64 p, .int .i64 q], .agg #[.int .i64 r, .int .i64 s]] w fun e w' => e = .returned (.agg #[.int .i64 (keptP (mulX p q r s) (mulY p q r s)), .int .i64 (keptQ (mulX p q r s) (mulY p q r s))]) ∧ Below w.heap.size (w.setCell ⟨b, o, none⟩ (.bool (g || !smallB (mulX p q r s) (mulY p q r s)))) w' := by
  obtain ⟨b1, b2⟩ := mul_bd p r h1 h2 (by omega) h6
  obtain ⟨b5, b6⟩ := mul_bd q s (by omega) h4 (by omega) h8
  have b7 := Int.mul_pos (show 0 < q by omega) (show 0 < s by omega)
  obtain ⟨l1, l2⟩ := lowP_bd (p * r) (q * s) (by omega) (by omega)
  go_enter Try.func43, Try.ntmps43
  go_wp2_with (first | (go_at_call 60; refine Calls.mono (lowest_any _ _ _ (by omega) (by omega) (by omega) (by omega) (by omega)) ?_; rintro e w1 ⟨rfl, hb⟩; obtain ⟨X, m, rfl⟩ := plsOf hb; clear hb) | (go_at_call 59; refine Calls.mono (kept_any b o g _ _ _ l1 l2 (by simp [go_sem, ha]) (by simp [go_sem, ha, hc]) (by simp [go_sem, ha, hf])) ?_; rintro e w1 ⟨rfl, hb⟩; obtain ⟨X, m, rfl⟩ := plsOfS hb; clear hb))
  exact bodyPost_ret (v := .agg #[.int .i64 (keptP (mulX p q r s) (mulY p q r s)), .int .i64 (keptQ (mulX p q r s) (mulY p q r s))]) (by simp [results, Try.results43, go_sem, mulX, mulY]) rfl ⟨rfl, (by (try with_reducible refine bsz ?_); repeat (first | with_reducible exact Below.refl _ _ | ((with_reducible refine bpre ?_); (try simp only [Array.append_assoc]); repeat (first | with_reducible exact Pre.refl _ | with_reducible exact Pre.base _ _ | with_reducible refine Pre.cons _ ?_)) | with_reducible assumption | ((with_reducible refine bsetr ?_); rfl) | with_reducible refine Below.setCell ?_ (by simp <;> omega) _ | with_reducible refine bpl ?_ _ _ | with_reducible refine bal ?_ _ | with_reducible refine bdrew1 ?_ | with_reducible refine bdrew ?_ _))⟩

end Go.Proofs.Ytenaiegidcjanaa

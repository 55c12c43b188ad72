import Derived.BigGuardPart
import Derived.Deep.RegionHeld3
import Derived.Shelf.Abstract
import Derived.Test.YtekchdgpaemofaaGreatProg
import Derived.Test.YtekchdgpaemofaaGreatYySl
namespace Go.Proofs.YtekchdgpaemofaaGreat
open Go.RowKit
set_option linter.unusedVariables false
set_option linter.unusedSimpArgs false

theorem size_any (n : Int) (w : World) (h : -9223372036854775808 < n) (h2 : n ≤ 9223372036854775807) :
    Calls Tryz.prog 286 #[.int .i64 n] w fun e w' => e = .returned (.int .i64 (absI n)) ∧ w = w' := by
  go_enter Tryz.func286, Tryz.ntmps286
  go_wp2
  all_goals go_ret
  all_goals exact ⟨ret_int (by unfold absI; omega), rfl⟩

theorem gcd_any (a b : Int) (w : World) (h : -9223372036854775808 < a) (h2 : a ≤ 9223372036854775807) (h3 : -9223372036854775808 < b) (h4 : b ≤ 9223372036854775807) :
    Calls Tryz.prog 265 #[.int .i64 a, .int .i64 b] w fun e w' => e = .returned (.int .i64 (Int.gcd a b : Int)) ∧ ∃ n, w' = w.drewN n := by
  go_enter Tryz.func265, Tryz.ntmps265
  go_wp2
  go_loopw [0, 1] (fun u v w' => ∃ x y : Int, u = .int .i64 x ∧ v = .int .i64 y ∧ -9223372036854775808 < x ∧ x ≤ 9223372036854775807 ∧ -9223372036854775808 < y ∧ y ≤ 9223372036854775807 ∧ Hid (Int.gcd x y = Int.gcd a b) ∧ ∃ n, w' = w.drewN n) (fun _ v _ => (intOf v).natAbs)
  case atStart => exact ⟨a, b, rfl, rfl, h, h2, h3, h4, rfl, 0, rfl⟩
  case round =>
    obtain ⟨x, y, rfl, rfl, hx1, hx2, hy1, hy2, H, n, rfl⟩ := hrel
    by_cases hy : y = 0
    · subst hy
      go_wp2_with (go_at_call 286; refine (size_any _ _ (by omega) (by omega)).mono ?_; rintro e w' ⟨rfl, rfl⟩)
      go_ret
      exact ⟨ret_int (by rw [← H.out, Int.gcd_zero_right]; rfl), n, rfl⟩
    · have hb1 : (y == 0) = false := by simpa using hy
      have hb2 : (y != 0) = true := by simpa using hy
      have t1 : (x.tmod y).natAbs < y.natAbs := by rw [Int.natAbs_tmod]; exact Nat.mod_lt _ (by omega)
      go_wp2
      go_quiet (fail)
      go_wp2
      go_roundw
      case rel => exact ⟨y, x.tmod y, rfl, rfl, by omega, by omega, by omega, by omega, (by have := gcd_step x y; rw [this]; exact H.out), _, World.drewN_drewN _ _ _⟩
      case measure => simp only [intOf]; omega

theorem lowest_any (p q : Int) (w : World) (h : -9223372036854775808 < p) (h2 : p ≤ 9223372036854775807) (h3 : -9223372036854775808 < q) (h4 : q ≤ 9223372036854775807) (hq : q ≠ 0) :
    Calls Tryz.prog 223 #[.int .i64 p, .int .i64 q] w fun e w' => e = .returned (.agg #[.int .i64 (lowP p q), .int .i64 (lowQ p q)]) ∧ Below w.heap.size w w' := by
  have hg := gcd_pos' p q hq
  have hg2 := gcd_le' p q hq
  have hg3 : ((Int.gcd p q : Int) == 0) = false := by rw [beq_eq_false_iff_ne]; omega
  have hg4 : ((-(Int.gcd p q : Int)) == 0) = false := by rw [beq_eq_false_iff_ne]; omega
  obtain ⟨tp1, tp2⟩ := tdiv_bd p (Int.gcd p q) h h2
  obtain ⟨tq1, tq2⟩ := tdiv_bd q (Int.gcd p q) h3 h4
  by_cases hn : q < 0
  · have e1 : lowP p q = -(p.tdiv (Int.gcd p q)) := if_pos hn
    have e2 : lowQ p q = -(q.tdiv (Int.gcd p q)) := if_pos hn
    rw [e1, e2]
    clear e1 e2
    go_enter Tryz.func223, Tryz.ntmps223
    go_wp2_with (go_at_call 265; refine (gcd_any _ _ _ (by omega) (by omega) (by omega) (by omega)).mono ?_; rintro e w' ⟨rfl, n, rfl⟩)
    go_region
    go_wp2
    exact bodyPost_ret (v := .agg #[.int .i64 (-(p.tdiv (Int.gcd p q))), .int .i64 (-(q.tdiv (Int.gcd p q)))]) (by simp [results, Tryz.results223, go_sem]) rfl ⟨rfl, (((bdrew (Below.refl _ _) _).alloc (Nat.le_refl _) _).setCell (by simp) _).setCell (by simp) _⟩
  · have e1 : lowP p q = (p.tdiv (Int.gcd p q)) := if_neg hn
    have e2 : lowQ p q = (q.tdiv (Int.gcd p q)) := if_neg hn
    rw [e1, e2]
    clear e1 e2
    go_enter Tryz.func223, Tryz.ntmps223
    go_wp2_with (go_at_call 265; refine (gcd_any _ _ _ (by omega) (by omega) (by omega) (by omega)).mono ?_; rintro e w' ⟨rfl, n, rfl⟩)
    go_region
    go_wp2
    exact bodyPost_ret (v := .agg #[.int .i64 (p.tdiv (Int.gcd p q)), .int .i64 (q.tdiv (Int.gcd p q))]) (by simp [results, Tryz.results223, go_sem]) rfl ⟨rfl, (((bdrew (Below.refl _ _) _).alloc (Nat.le_refl _) _).setCell (by simp) _).setCell (by simp) _⟩

theorem small_any (p q : Int) (w : World) (h : -9223372036854775808 < p) (h2 : p ≤ 9223372036854775807) :
    Calls Tryz.prog 268 #[.agg #[.int .i64 p, .int .i64 q]] w fun e w' => e = .returned (.bool (smallB p q)) ∧ Below w.heap.size w w' := by
  unfold smallB
  go_enter Tryz.func268, Tryz.ntmps268
  obtain ⟨i1, i2⟩ := absI_bd p
  by_cases hs : absI p ≤ 1000000000
  · rw [decide_eq_true hs, Bool.true_and]
    go_wp2_with (go_at_call 286; refine (size_any _ _ (by omega) (by omega)).mono ?_; rintro e w' ⟨rfl, rfl⟩)
    go_ret
    exact ⟨rfl, (Below.refl _ _).alloc (Nat.le_refl _) _⟩
  · rw [decide_eq_false hs, Bool.false_and]
    go_wp2_with (go_at_call 286; refine (size_any _ _ (by omega) (by omega)).mono ?_; rintro e w' ⟨rfl, rfl⟩)
    go_ret
    exact ⟨rfl, (Below.refl _ _).alloc (Nat.le_refl _) _⟩

theorem zero_any (w : World) :
    Calls Tryz.prog 147 #[] w fun e w' => e = .returned (.agg #[.int .i64 0, .int .i64 1]) ∧ Below w.heap.size w w' := by
  go_enter Tryz.func147, Tryz.ntmps147
  go_wp2
  exact bodyPost_ret (v := .agg #[.int .i64 0, .int .i64 1]) (by simp [results, Tryz.results147, go_sem]) rfl ⟨rfl, bal (Below.refl _ _) _⟩

theorem kept_any (b o : Nat) (g : Bool) (p q : Int) (w : World) (h : -9223372036854775808 < p) (h2 : p ≤ 9223372036854775807) (ha : b < w.heap.size)
    (hc : w.cell? ⟨b, o, none⟩ = some (.bool g)) (hf : w.frozen? ⟨b, o, none⟩ = false) :
    Calls Tryz.prog 222 #[.pointer (some ⟨b, o, none⟩), .agg #[.int .i64 p, .int .i64 q]] w fun e w' => e = .returned (.agg #[.int .i64 (keptP p q), .int .i64 (keptQ p q)]) ∧ Below w.heap.size (w.setCell ⟨b, o, none⟩ (.bool (g || !smallB p q))) w' := by
  cases hs : smallB p q
  · go_enter Tryz.func222, Tryz.ntmps222
    go_wp2_with (first | (go_at_call 268; refine Calls.mono (small_any _ _ _ h h2) ?_; rintro e w1 ⟨rfl, hb⟩; obtain ⟨X, m, rfl⟩ := plsOf hb; clear hb) | (go_at_call 147; refine Calls.mono (zero_any _) ?_; rintro e w1 ⟨rfl, hb⟩; obtain ⟨X, m, rfl⟩ := plsOf hb; clear hb))
    rw [Bool.not_false, Bool.or_true]
    exact bodyPost_ret (v := .agg #[.int .i64 0, .int .i64 1]) (by simp [results, Tryz.results222, go_sem]) rfl ⟨by simp [keptP, keptQ, hs], belA⟩
  · go_enter Tryz.func222, Tryz.ntmps222
    go_wp2_with (first | (go_at_call 268; refine Calls.mono (small_any _ _ _ h h2) ?_; rintro e w1 ⟨rfl, hb⟩; obtain ⟨X, m, rfl⟩ := plsOf hb; clear hb) | (go_at_call 147; refine Calls.mono (zero_any _) ?_; rintro e w1 ⟨rfl, hb⟩; obtain ⟨X, m, rfl⟩ := plsOf hb; clear hb))
    rw [Bool.not_true, Bool.or_false, setCell_same _ _ _ hc]
    exact bodyPost_ret (v := .agg #[.int .i64 p, .int .i64 q]) (by simp [results, Tryz.results222, go_sem]) rfl ⟨by simp [keptP, keptQ, hs], belA⟩
theorem told_any (b o : Nat) (g : Bool) (p q : Int) (w : World) (ha : b < w.heap.size) (hc : w.cell? ⟨b, o, none⟩ = some (.bool g)) :
    Calls Tryz.prog 90 #[.pointer (some ⟨b, o, none⟩), .agg #[.int .i64 p, .int .i64 q]] w fun e w' => e = .returned (.tuple #[.agg #[.int .i64 (pickI g 0 p), .int .i64 (pickI g 0 q)], .int .i64 (pickI g 3 0)]) ∧ Below w.heap.size w w' := by
  cases g
  · go_enter Tryz.func90, Tryz.ntmps90
    go_wp2
    exact bodyPost_ret (v := .tuple #[.agg #[.int .i64 p, .int .i64 q], .int .i64 0]) (by simp [results, Tryz.results90, go_sem]) rfl ⟨rfl, belA⟩
  · go_enter Tryz.func90, Tryz.ntmps90
    go_wp2
    exact bodyPost_ret (v := .tuple #[.agg #[.int .i64 0, .int .i64 0], .int .i64 3]) (by simp [results, Tryz.results90, go_sem]) rfl ⟨rfl, belA⟩

theorem add_any (b o : Nat) (g : Bool) (p q r s : Int) (w : World) (ha : b < w.heap.size) (hc : w.cell? ⟨b, o, none⟩ = some (.bool g)) (hf : w.frozen? ⟨b, o, none⟩ = false)
    (h1 : -1000000000 ≤ p) (h2 : p ≤ 1000000000) (h3 : 1 ≤ q) (h4 : q ≤ 1000000000) (h5 : -1000000000 ≤ r) (h6 : r ≤ 1000000000) (h7 : 1 ≤ s) (h8 : s ≤ 1000000000) :
    Calls Tryz.prog 148 #[.pointer (some ⟨b, o, none⟩), .agg #[.int .i64 p, .int .i64 q], .agg #[.int .i64 r, .int .i64 s]] w fun e w' => e = .returned (.agg #[.int .i64 (keptP (addX p q r s) (addY p q r s)), .int .i64 (keptQ (addX p q r s) (addY p q r s))]) ∧ Below w.heap.size (w.setCell ⟨b, o, none⟩ (.bool (g || !smallB (addX p q r s) (addY p q r s)))) w' := by
  obtain ⟨b1, b2⟩ := mul_bd p s h1 h2 (by omega) h8
  obtain ⟨b3, b4⟩ := mul_bd r q h5 h6 (by omega) h4
  obtain ⟨b5, b6⟩ := mul_bd q s (by omega) h4 (by omega) h8
  have b7 := Int.mul_pos (show 0 < q by omega) (show 0 < s by omega)
  obtain ⟨l1, l2⟩ := lowP_bd (p * s + r * q) (q * s) (by omega) (by omega)
  go_enter Tryz.func148, Tryz.ntmps148
  go_wp2_with (first | (go_at_call 223; refine Calls.mono (lowest_any _ _ _ (by omega) (by omega) (by omega) (by omega) (by omega)) ?_; rintro e w1 ⟨rfl, hb⟩; obtain ⟨X, m, rfl⟩ := plsOf hb; clear hb) | (go_at_call 222; refine Calls.mono (kept_any b o g _ _ _ l1 l2 (by simp [go_sem, ha]) (by simp [go_sem, ha, hc]) (by simp [go_sem, ha, hf])) ?_; rintro e w1 ⟨rfl, hb⟩; obtain ⟨X, m, rfl⟩ := plsOfS hb; clear hb))
  exact bodyPost_ret (v := .agg #[.int .i64 (keptP (addX p q r s) (addY p q r s)), .int .i64 (keptQ (addX p q r s) (addY p q r s))]) (by simp [results, Tryz.results148, go_sem, addX, addY]) rfl ⟨rfl, belA⟩

theorem mul_any (b o : Nat) (g : Bool) (p q r s : Int) (w : World) (ha : b < w.heap.size) (hc : w.cell? ⟨b, o, none⟩ = some (.bool g)) (hf : w.frozen? ⟨b, o, none⟩ = false)
    (h1 : -1000000000 ≤ p) (h2 : p ≤ 1000000000) (h3 : 1 ≤ q) (h4 : q ≤ 1000000000) (h5 : -1000000000 ≤ r) (h6 : r ≤ 1000000000) (h7 : 1 ≤ s) (h8 : s ≤ 1000000000) :
    Calls Tryz.prog 149 #[.pointer (some ⟨b, o, none⟩), .agg #[.int .i64 p, .int .i64 q], .agg #[.int .i64 r, .int .i64 s]] w fun e w' => e = .returned (.agg #[.int .i64 (keptP (mulX p q r s) (mulY p q r s)), .int .i64 (keptQ (mulX p q r s) (mulY p q r s))]) ∧ Below w.heap.size (w.setCell ⟨b, o, none⟩ (.bool (g || !smallB (mulX p q r s) (mulY p q r s)))) w' := by
  obtain ⟨b1, b2⟩ := mul_bd p r h1 h2 (by omega) h6
  obtain ⟨b5, b6⟩ := mul_bd q s (by omega) h4 (by omega) h8
  have b7 := Int.mul_pos (show 0 < q by omega) (show 0 < s by omega)
  obtain ⟨l1, l2⟩ := lowP_bd (p * r) (q * s) (by omega) (by omega)
  go_enter Tryz.func149, Tryz.ntmps149
  go_wp2_with (first | (go_at_call 223; refine Calls.mono (lowest_any _ _ _ (by omega) (by omega) (by omega) (by omega) (by omega)) ?_; rintro e w1 ⟨rfl, hb⟩; obtain ⟨X, m, rfl⟩ := plsOf hb; clear hb) | (go_at_call 222; refine Calls.mono (kept_any b o g _ _ _ l1 l2 (by simp [go_sem, ha]) (by simp [go_sem, ha, hc]) (by simp [go_sem, ha, hf])) ?_; rintro e w1 ⟨rfl, hb⟩; obtain ⟨X, m, rfl⟩ := plsOfS hb; clear hb))
  exact bodyPost_ret (v := .agg #[.int .i64 (keptP (mulX p q r s) (mulY p q r s)), .int .i64 (keptQ (mulX p q r s) (mulY p q r s))]) (by simp [results, Tryz.results149, go_sem, mulX, mulY]) rfl ⟨rfl, belA⟩

theorem div_any (b o : Nat) (g : Bool) (p q r s : Int) (w : World) (ha : b < w.heap.size) (hc : w.cell? ⟨b, o, none⟩ = some (.bool g)) (hf : w.frozen? ⟨b, o, none⟩ = false)
    (h1 : -1000000000 ≤ p) (h2 : p ≤ 1000000000) (h3 : 1 ≤ q) (h4 : q ≤ 1000000000) (h5 : -1000000000 ≤ r) (h6 : r ≤ 1000000000) (h7 : 1 ≤ s) (h8 : s ≤ 1000000000) (h9 : r ≠ 0) :
    Calls Tryz.prog 248 #[.pointer (some ⟨b, o, none⟩), .agg #[.int .i64 p, .int .i64 q], .agg #[.int .i64 r, .int .i64 s]] w fun e w' => e = .returned (.agg #[.int .i64 (keptP (divX p q r s) (divY p q r s)), .int .i64 (keptQ (divX p q r s) (divY p q r s))]) ∧ Below w.heap.size (w.setCell ⟨b, o, none⟩ (.bool (g || !smallB (divX p q r s) (divY p q r s)))) w' := by
  obtain ⟨b1, b2⟩ := mul_bd p s h1 h2 (by omega) h8
  obtain ⟨b5, b6⟩ := mul_bd q r (by omega) h4 (by omega) h6
  have b7 : q * r ≠ 0 := Int.mul_ne_zero (by omega) h9
  obtain ⟨l1, l2⟩ := lowP_bd (p * s) (q * r) (by omega) (by omega)
  go_enter Tryz.func248, Tryz.ntmps248
  go_wp2_with (first | (go_at_call 223; refine Calls.mono (lowest_any _ _ _ (by omega) (by omega) (by omega) (by omega) b7) ?_; rintro e w1 ⟨rfl, hb⟩; obtain ⟨X, m, rfl⟩ := plsOf hb; clear hb) | (go_at_call 222; refine Calls.mono (kept_any b o g _ _ _ l1 l2 (by simp [go_sem, ha]) (by simp [go_sem, ha, hc]) (by simp [go_sem, ha, hf])) ?_; rintro e w1 ⟨rfl, hb⟩; obtain ⟨X, m, rfl⟩ := plsOfS hb; clear hb))
  exact bodyPost_ret (v := .agg #[.int .i64 (keptP (divX p q r s) (divY p q r s)), .int .i64 (keptQ (divX p q r s) (divY p q r s))]) (by simp [results, Tryz.results248, go_sem, divX, divY]) rfl ⟨rfl, belA⟩

end Go.Proofs.YtekchdgpaemofaaGreat

/- What the program's functions for use from outside on fractions return. -/
namespace Go.Proofs.YtekchdgpaemofaaGreat
open Go.RowKit
set_option linter.unusedVariables false
set_option linter.unusedSimpArgs false

theorem valid_any (p q : Int) (w : World) (h : -9223372036854775808 ≤ p) (h2 : p ≤ 9223372036854775807) (h3 : -9223372036854775808 ≤ q) (h4 : q ≤ 9223372036854775807) :
    Calls Tryz.prog 219 #[.agg #[.int .i64 p, .int .i64 q]] w fun e w' => e = .returned (.bool (frOk p q)) ∧ Below w.heap.size w w' := by
  go_enter Tryz.func219, Tryz.ntmps219
  go_wp2_with (first | (go_at_call 265; refine Calls.mono (gcd_any _ _ _ (by omega) (by omega) (by omega) (by omega)) ?_; rintro e w1 ⟨rfl, n, rfl⟩))
  all_goals go_ret
  all_goals refine ⟨ret_bool ?_, belA⟩
  all_goals rw [Bool.eq_iff_iff, frOk_iff]
  all_goals simp
  all_goals omega

theorem in_any (n a b : Int) (w : World) : Calls Tryz.prog 163 #[.int .i64 n, .int .i64 a, .int .i64 b] w fun e w' => e = .returned (.bool (inB n a b)) ∧ w = w' := by
  go_enter Tryz.func163, Tryz.ntmps163
  go_wp2
  all_goals go_ret
  all_goals exact ⟨ret_bool (by simp [inB]; omega), rfl⟩

end Go.Proofs.YtekchdgpaemofaaGreat

/- What the reference's functions on single fractions return: the same plain functions. -/
namespace Go.Proofs.YtekchdgpaemofaaGreat
open Go.RowKit
set_option linter.unusedVariables false
set_option linter.unusedSimpArgs false

theorem sin_any (n a b : Int) (w : World) : Calls Tryz.prog 120 #[.int .i64 n, .int .i64 a, .int .i64 b] w fun e w' => e = .returned (.bool (inB n a b)) ∧ w = w' := by
  go_enter Tryz.func120, Tryz.ntmps120
  go_wp2
  all_goals go_ret
  all_goals exact ⟨ret_bool (by simp [inB]; omega), rfl⟩

theorem sabs_any (n : Int) (w : World) (h : -9223372036854775808 < n) (h2 : n ≤ 9223372036854775807) :
    Calls Tryz.prog 197 #[.int .i64 n] w fun e w' => e = .returned (.int .i64 (absI n)) ∧ w = w' := by
  go_enter Tryz.func197, Tryz.ntmps197
  go_wp2
  all_goals go_ret
  all_goals exact ⟨ret_int (by unfold absI; omega), rfl⟩

theorem scommon_any (a b : Int) (w : World) (h : 0 ≤ a) (h2 : a ≤ 9223372036854775807) (h3 : 0 ≤ b) (h4 : b ≤ 9223372036854775807) :
    Calls Tryz.prog 196 #[.int .i64 a, .int .i64 b] w fun e w' => e = .returned (.int .i64 (Int.gcd a b : Int)) ∧ w = w' := by
  go_enter Tryz.func196, Tryz.ntmps196
  go_wp2
  go_loop [0, 1] (fun u v => ∃ x y : Int, u = .int .i64 x ∧ v = .int .i64 y ∧ 0 ≤ x ∧ x ≤ 9223372036854775807 ∧ 0 ≤ y ∧ y ≤ 9223372036854775807 ∧ Hid (Int.gcd x y = Int.gcd a b)) (fun _ v => (intOf v).natAbs)
  case atStart => exact ⟨a, b, rfl, rfl, h, h2, h3, h4, rfl⟩
  case round =>
    obtain ⟨x, y, rfl, rfl, hx1, hx2, hy1, hy2, H⟩ := hrel
    by_cases hy : y = 0
    · subst hy
      go_wp2
      go_ret
      exact ⟨ret_int (by rw [← H.out, Int.gcd_zero_right]; omega), rfl⟩
    · have hb1 : (y == 0) = false := by simpa using hy
      have hb2 : (y != 0) = true := by simpa using hy
      have t1 : 0 ≤ x % y := Int.emod_nonneg _ hy
      have t2 : x % y < y := Int.emod_lt_of_pos _ (by omega)
      go_wp2
      go_round
      case rel => exact ⟨y, x % y, rfl, rfl, by omega, by omega, by omega, by omega, (by have := gcd_step x y; rw [Int.tmod_eq_emod_of_nonneg hx1] at this; rw [this]; exact H.out)⟩
      case measure => simp only [intOf]; omega

theorem slowest_any (p q : Int) (w : World) (h : -9223372036854775808 < p) (h2 : p ≤ 9223372036854775807) (h3 : -9223372036854775808 < q) (h4 : q ≤ 9223372036854775807) (hq : q ≠ 0) :
    Calls Tryz.prog 204 #[.int .i64 p, .int .i64 q] w fun e w' => e = .returned (.tuple #[.agg #[.int .i64 (resP (lowP p q) (lowQ p q)), .int .i64 (resQ (lowP p q) (lowQ p q))], .int .i64 (resC (lowP p q) (lowQ p q))]) ∧ Below w.heap.size w w' := by
  have hg := gcd_pos' p q hq
  have hg2 := gcd_le' p q hq
  have hg3 : ((Int.gcd p q : Int) == 0) = false := by rw [beq_eq_false_iff_ne]; omega
  obtain ⟨tp1, tp2⟩ := tdiv_bd p (Int.gcd p q) h h2
  obtain ⟨tq1, tq2⟩ := tdiv_bd q (Int.gcd p q) h3 h4
  have hga : Int.gcd (absI p) q = Int.gcd p q := gcd_absI p q
  have hgb : Int.gcd (absI (-p)) (-q) = Int.gcd p q := by rw [gcd_absI]; simp
  obtain ⟨i1, i2⟩ := absI_bd p
  obtain ⟨i3, i4⟩ := absI_bd (-p)
  by_cases hn : q < 0
  · have e1 : lowP p q = -(p.tdiv (Int.gcd p q)) := if_pos hn
    have e2 : lowQ p q = -(q.tdiv (Int.gcd p q)) := if_pos hn
    rw [e1, e2]
    clear e1 e2
    have HG := Lib.hid hgb
    clear hga hgb
    obtain ⟨x, hx⟩ : ∃ x, -(p.tdiv (Int.gcd p q)) = x := ⟨_, rfl⟩
    obtain ⟨y, hy⟩ : ∃ y, -(q.tdiv (Int.gcd p q)) = y := ⟨_, rfl⟩
    obtain ⟨j1, j2⟩ := absI_bd x
    rw [hx, hy]
    by_cases s1 : absI x ≤ 1000000000
    · by_cases s2 : y ≤ 1000000000
      · have hs : smallB x y = true := by simp only [smallB, s1, s2, decide_true, Bool.and_self]
        go_enter Tryz.func204, Tryz.ntmps204
        go_wp2_with (fail)
        refine (sabs_any _ _ (by omega) (by omega)).mono ?_
        rintro e w1 ⟨rfl, rfl⟩
        go_wp2_with (fail)
        refine (scommon_any _ _ _ (by omega) (by omega) (by omega) (by omega)).mono ?_
        rintro e w1 ⟨rfl, rfl⟩
        rw [HG.out]
        go_wp2
        go_region
        go_wp2_with (fail)
        refine (sabs_any _ _ (by omega) (by omega)).mono ?_
        rintro e w1 ⟨rfl, rfl⟩
        go_wp2
        all_goals first | (exfalso; omega) | exact bodyPost_ret (v := .tuple #[.agg #[.int .i64 x, .int .i64 y], .int .i64 0]) (by simp [results, Tryz.results204, go_sem]) rfl ⟨by simp only [resP, resQ, resC, hs]; rfl, belA⟩
      · have hs : smallB x y = false := by simp only [smallB, s1, s2, decide_true, decide_false, Bool.and_false]
        go_enter Tryz.func204, Tryz.ntmps204
        go_wp2_with (fail)
        refine (sabs_any _ _ (by omega) (by omega)).mono ?_
        rintro e w1 ⟨rfl, rfl⟩
        go_wp2_with (fail)
        refine (scommon_any _ _ _ (by omega) (by omega) (by omega) (by omega)).mono ?_
        rintro e w1 ⟨rfl, rfl⟩
        rw [HG.out]
        go_wp2
        go_region
        go_wp2_with (fail)
        refine (sabs_any _ _ (by omega) (by omega)).mono ?_
        rintro e w1 ⟨rfl, rfl⟩
        go_wp2
        all_goals first | (exfalso; omega) | exact bodyPost_ret (v := .tuple #[.agg #[.int .i64 0, .int .i64 0], .int .i64 3]) (by simp [results, Tryz.results204, go_sem]) rfl ⟨by simp only [resP, resQ, resC, hs]; rfl, belA⟩
    · have hs : smallB x y = false := by simp only [smallB, s1, decide_false, Bool.false_and]
      go_enter Tryz.func204, Tryz.ntmps204
      go_wp2_with (fail)
      refine (sabs_any _ _ (by omega) (by omega)).mono ?_
      rintro e w1 ⟨rfl, rfl⟩
      go_wp2_with (fail)
      refine (scommon_any _ _ _ (by omega) (by omega) (by omega) (by omega)).mono ?_
      rintro e w1 ⟨rfl, rfl⟩
      rw [HG.out]
      go_wp2
      go_region
      go_wp2_with (fail)
      refine (sabs_any _ _ (by omega) (by omega)).mono ?_
      rintro e w1 ⟨rfl, rfl⟩
      go_wp2
      all_goals first | (exfalso; omega) | exact bodyPost_ret (v := .tuple #[.agg #[.int .i64 0, .int .i64 0], .int .i64 3]) (by simp [results, Tryz.results204, go_sem]) rfl ⟨by simp only [resP, resQ, resC, hs]; rfl, belA⟩
  · have e1 : lowP p q = p.tdiv (Int.gcd p q) := if_neg hn
    have e2 : lowQ p q = q.tdiv (Int.gcd p q) := if_neg hn
    rw [e1, e2]
    clear e1 e2
    have HG := Lib.hid hga
    clear hga hgb
    obtain ⟨x, hx⟩ : ∃ x, p.tdiv (Int.gcd p q) = x := ⟨_, rfl⟩
    obtain ⟨y, hy⟩ : ∃ y, q.tdiv (Int.gcd p q) = y := ⟨_, rfl⟩
    obtain ⟨j1, j2⟩ := absI_bd x
    rw [hx, hy]
    by_cases s1 : absI x ≤ 1000000000
    · by_cases s2 : y ≤ 1000000000
      · have hs : smallB x y = true := by simp only [smallB, s1, s2, decide_true, Bool.and_self]
        go_enter Tryz.func204, Tryz.ntmps204
        go_wp2_with (fail)
        refine (sabs_any _ _ (by omega) (by omega)).mono ?_
        rintro e w1 ⟨rfl, rfl⟩
        go_wp2_with (fail)
        refine (scommon_any _ _ _ (by omega) (by omega) (by omega) (by omega)).mono ?_
        rintro e w1 ⟨rfl, rfl⟩
        rw [HG.out]
        go_wp2
        go_region
        go_wp2_with (fail)
        refine (sabs_any _ _ (by omega) (by omega)).mono ?_
        rintro e w1 ⟨rfl, rfl⟩
        go_wp2
        all_goals first | (exfalso; omega) | exact bodyPost_ret (v := .tuple #[.agg #[.int .i64 x, .int .i64 y], .int .i64 0]) (by simp [results, Tryz.results204, go_sem]) rfl ⟨by simp only [resP, resQ, resC, hs]; rfl, belA⟩
      · have hs : smallB x y = false := by simp only [smallB, s1, s2, decide_true, decide_false, Bool.and_false]
        go_enter Tryz.func204, Tryz.ntmps204
        go_wp2_with (fail)
        refine (sabs_any _ _ (by omega) (by omega)).mono ?_
        rintro e w1 ⟨rfl, rfl⟩
        go_wp2_with (fail)
        refine (scommon_any _ _ _ (by omega) (by omega) (by omega) (by omega)).mono ?_
        rintro e w1 ⟨rfl, rfl⟩
        rw [HG.out]
        go_wp2
        go_region
        go_wp2_with (fail)
        refine (sabs_any _ _ (by omega) (by omega)).mono ?_
        rintro e w1 ⟨rfl, rfl⟩
        go_wp2
        all_goals first | (exfalso; omega) | exact bodyPost_ret (v := .tuple #[.agg #[.int .i64 0, .int .i64 0], .int .i64 3]) (by simp [results, Tryz.results204, go_sem]) rfl ⟨by simp only [resP, resQ, resC, hs]; rfl, belA⟩
    · have hs : smallB x y = false := by simp only [smallB, s1, decide_false, Bool.false_and]
      go_enter Tryz.func204, Tryz.ntmps204
      go_wp2_with (fail)
      refine (sabs_any _ _ (by omega) (by omega)).mono ?_
      rintro e w1 ⟨rfl, rfl⟩
      go_wp2_with (fail)
      refine (scommon_any _ _ _ (by omega) (by omega) (by omega) (by omega)).mono ?_
      rintro e w1 ⟨rfl, rfl⟩
      rw [HG.out]
      go_wp2
      go_region
      go_wp2_with (fail)
      refine (sabs_any _ _ (by omega) (by omega)).mono ?_
      rintro e w1 ⟨rfl, rfl⟩
      go_wp2
      all_goals first | (exfalso; omega) | exact bodyPost_ret (v := .tuple #[.agg #[.int .i64 0, .int .i64 0], .int .i64 3]) (by simp [results, Tryz.results204, go_sem]) rfl ⟨by simp only [resP, resQ, resC, hs]; rfl, belA⟩
end Go.Proofs.YtekchdgpaemofaaGreat

/- The reference's functions for use from outside on fractions. -/
namespace Go.Proofs.YtekchdgpaemofaaGreat
open Go.RowKit
set_option linter.unusedVariables false
set_option linter.unusedSimpArgs false

theorem sok_any (p q : Int) (w : World) (h : -9223372036854775808 ≤ p) (h2 : p ≤ 9223372036854775807) (h3 : -9223372036854775808 ≤ q) (h4 : q ≤ 9223372036854775807) :
    Calls Tryz.prog 119 #[.agg #[.int .i64 p, .int .i64 q]] w fun e w' => e = .returned (.bool (frOk p q)) ∧ Below w.heap.size w w' := by
  cases a1 : inB p (-1000000000) 1000000000
  · have hv : frOk p q = false := by
      rw [Bool.eq_false_iff]; intro hc; rw [frOk_iff] at hc; rw [inB_t hc.2.1 hc.2.2.1] at a1; cases a1
    rw [hv]
    go_enter Tryz.func119, Tryz.ntmps119
    go_wp2
    go_quiet ((go_at_call 120; exact qsv (u := .bool false) (sin_any _ _ _ _) (by rw [a1])))
    go_wp2
    go_ret
    exact ⟨rfl, belA⟩
  · cases a2 : inB q 1 1000000000
    · have hv : frOk p q = false := by
        rw [Bool.eq_false_iff]; intro hc; rw [frOk_iff] at hc; rw [inB_t (by omega) hc.2.2.2.1] at a2; cases a2
      rw [hv]
      go_enter Tryz.func119, Tryz.ntmps119
      go_wp2
      go_quiet ((go_at_call 120; first | exact qsv (u := .bool true) (sin_any _ _ _ _) (by rw [a1]) | exact qsv (u := .bool false) (sin_any _ _ _ _) (by rw [a2])))
      go_wp2
      go_ret
      exact ⟨rfl, belA⟩
    · obtain ⟨b1, b2⟩ := inB_iff.1 a1
      obtain ⟨b3, b4⟩ := inB_iff.1 a2
      obtain ⟨i1, i2⟩ := absI_bd p
      have HG := Lib.hid (gcd_absI p q)
      have hv : Hid (frOk p q = ((Int.gcd p q : Int) == 1)) := by
        show frOk p q = _
        rw [Bool.eq_iff_iff, frOk_iff]; simp; omega
      go_enter Tryz.func119, Tryz.ntmps119
      go_wp2
      go_quiet (first | (go_at_call 120; first | exact qsv (u := .bool true) (sin_any _ _ _ _) (by rw [a1]) | exact qsv (u := .bool true) (sin_any _ _ _ _) (by rw [a2])) | (go_at_call 197; exact qsv (u := .int .i64 (absI p)) (sabs_any _ _ (by omega) (by omega)) rfl) | (go_at_call 196; exact qsv (u := .int .i64 (Int.gcd p q : Int)) (scommon_any _ _ _ (by omega) (by omega) (by omega) (by omega)) (by rw [HG.out])))
      go_wp2
      go_ret
      exact ⟨ret_bool (by rw [hv.out]), belA⟩

theorem sadd_any (p q r s : Int) (w : World)
    (h1 : -1000000000 ≤ p) (h2 : p ≤ 1000000000) (h3 : 1 ≤ q) (h4 : q ≤ 1000000000) (h5 : -1000000000 ≤ r) (h6 : r ≤ 1000000000) (h7 : 1 ≤ s) (h8 : s ≤ 1000000000) :
    Calls Tryz.prog 130 #[.agg #[.int .i64 p, .int .i64 q], .agg #[.int .i64 r, .int .i64 s]] w fun e w' => e = .returned (.tuple #[.agg #[.int .i64 (resP (addX p q r s) (addY p q r s)), .int .i64 (resQ (addX p q r s) (addY p q r s))], .int .i64 (resC (addX p q r s) (addY p q r s))]) ∧ Below w.heap.size w w' := by
  obtain ⟨b1, b2⟩ := mul_bd p s h1 h2 (by omega) h8
  obtain ⟨b3, b4⟩ := mul_bd r q h5 h6 (by omega) h4
  obtain ⟨b5, b6⟩ := mul_bd q s (by omega) h4 (by omega) h8
  have b7 := Int.mul_pos (show 0 < q by omega) (show 0 < s by omega)
  go_enter Tryz.func130, Tryz.ntmps130
  go_wp2_with (first | (go_at_call 204; refine Calls.mono (slowest_any _ _ _ (by omega) (by omega) (by omega) (by omega) (by omega)) ?_; rintro e w1 ⟨rfl, hb⟩; obtain ⟨X, m, rfl⟩ := plsOf hb; clear hb))
  exact bodyPost_ret (v := .tuple #[.agg #[.int .i64 (resP (addX p q r s) (addY p q r s)), .int .i64 (resQ (addX p q r s) (addY p q r s))], .int .i64 (resC (addX p q r s) (addY p q r s))]) (by simp [results, Tryz.results130, go_sem, addX, addY]) rfl ⟨rfl, belA⟩

theorem smul_any (p q r s : Int) (w : World)
    (h1 : -1000000000 ≤ p) (h2 : p ≤ 1000000000) (h3 : 1 ≤ q) (h4 : q ≤ 1000000000) (h5 : -1000000000 ≤ r) (h6 : r ≤ 1000000000) (h7 : 1 ≤ s) (h8 : s ≤ 1000000000) :
    Calls Tryz.prog 128 #[.agg #[.int .i64 p, .int .i64 q], .agg #[.int .i64 r, .int .i64 s]] w fun e w' => e = .returned (.tuple #[.agg #[.int .i64 (resP (mulX p q r s) (mulY p q r s)), .int .i64 (resQ (mulX p q r s) (mulY p q r s))], .int .i64 (resC (mulX p q r s) (mulY p q r s))]) ∧ Below w.heap.size w w' := by
  obtain ⟨b1, b2⟩ := mul_bd p r h1 h2 (by omega) h6
  obtain ⟨b5, b6⟩ := mul_bd q s (by omega) h4 (by omega) h8
  have b7 := Int.mul_pos (show 0 < q by omega) (show 0 < s by omega)
  go_enter Tryz.func128, Tryz.ntmps128
  go_wp2_with (first | (go_at_call 204; refine Calls.mono (slowest_any _ _ _ (by omega) (by omega) (by omega) (by omega) (by omega)) ?_; rintro e w1 ⟨rfl, hb⟩; obtain ⟨X, m, rfl⟩ := plsOf hb; clear hb))
  exact bodyPost_ret (v := .tuple #[.agg #[.int .i64 (resP (mulX p q r s) (mulY p q r s)), .int .i64 (resQ (mulX p q r s) (mulY p q r s))], .int .i64 (resC (mulX p q r s) (mulY p q r s))]) (by simp [results, Tryz.results128, go_sem, mulX, mulY]) rfl ⟨rfl, belA⟩

theorem sdiv_any (p q r s : Int) (w : World)
    (h1 : -1000000000 ≤ p) (h2 : p ≤ 1000000000) (h3 : 1 ≤ q) (h4 : q ≤ 1000000000) (h5 : -1000000000 ≤ r) (h6 : r ≤ 1000000000) (h7 : 1 ≤ s) (h8 : s ≤ 1000000000) (h9 : r ≠ 0) :
    Calls Tryz.prog 161 #[.agg #[.int .i64 p, .int .i64 q], .agg #[.int .i64 r, .int .i64 s]] w fun e w' => e = .returned (.tuple #[.agg #[.int .i64 (resP (divX p q r s) (divY p q r s)), .int .i64 (resQ (divX p q r s) (divY p q r s))], .int .i64 (resC (divX p q r s) (divY p q r s))]) ∧ Below w.heap.size w w' := by
  obtain ⟨b1, b2⟩ := mul_bd p s h1 h2 (by omega) h8
  obtain ⟨b5, b6⟩ := mul_bd q r (by omega) h4 (by omega) h6
  have b7 : q * r ≠ 0 := Int.mul_ne_zero (by omega) h9
  go_enter Tryz.func161, Tryz.ntmps161
  go_wp2_with (first | (go_at_call 204; refine Calls.mono (slowest_any _ _ _ (by omega) (by omega) (by omega) (by omega) (by omega)) ?_; rintro e w1 ⟨rfl, hb⟩; obtain ⟨X, m, rfl⟩ := plsOf hb; clear hb))
  exact bodyPost_ret (v := .tuple #[.agg #[.int .i64 (resP (divX p q r s) (divY p q r s)), .int .i64 (resQ (divX p q r s) (divY p q r s))], .int .i64 (resC (divX p q r s) (divY p q r s))]) (by simp [results, Tryz.results161, go_sem, divX, divY]) rfl ⟨rfl, belA⟩

end Go.Proofs.YtekchdgpaemofaaGreat

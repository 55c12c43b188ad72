/- The reference's functions for use from outside on fractions. -/
import Derived.Test.YtjpnjokaeojnjaaSf
import Derived.Deep.RegionHeld3
namespace Go.Proofs.Ytjpnjokaeojnjaa
open Go.RowKit
set_option linter.unusedVariables false
set_option linter.unusedSimpArgs false

theorem sok_any (p q : Int) (w : World) (h : -9223372036854775808 ≤ p) (h2 : p ≤ 9223372036854775807) (h3 : -9223372036854775808 ≤ q) (h4 : q ≤ 9223372036854775807) :
    Calls Try.prog 146 #[.agg #[.int .i64 p, .int .i64 q]] w fun e w' => e = .returned (.bool (frOk p q)) ∧ Below w.heap.size w w' := by
  cases a1 : inB p (-1000000000) 1000000000
  · have hv : frOk p q = false := by
      rw [Bool.eq_false_iff]; intro hc; rw [frOk_iff] at hc; rw [inB_t hc.2.1 hc.2.2.1] at a1; cases a1
    rw [hv]
    go_enter Try.func146, Try.ntmps146
    go_wp2
    go_quiet ((go_at_call 150; exact qsv (u := .bool false) (sin_any _ _ _ _) (by rw [a1])))
    go_wp2
    go_ret
    exact ⟨rfl, (by (try with_reducible refine bsz ?_); repeat (first | with_reducible exact Below.refl _ _ | ((with_reducible refine bpre ?_); (try simp only [Array.append_assoc]); repeat (first | with_reducible exact Pre.refl _ | with_reducible exact Pre.base _ _ | with_reducible refine Pre.cons _ ?_)) | with_reducible assumption | ((with_reducible refine bsetr ?_); rfl) | with_reducible refine Below.setCell ?_ (by simp <;> omega) _ | with_reducible refine bpl ?_ _ _ | with_reducible refine bal ?_ _ | with_reducible refine bdrew1 ?_ | with_reducible refine bdrew ?_ _))⟩
  · cases a2 : inB q 1 1000000000
    · have hv : frOk p q = false := by
        rw [Bool.eq_false_iff]; intro hc; rw [frOk_iff] at hc; rw [inB_t (by omega) hc.2.2.2.1] at a2; cases a2
      rw [hv]
      go_enter Try.func146, Try.ntmps146
      go_wp2
      go_quiet ((go_at_call 150; first | exact qsv (u := .bool true) (sin_any _ _ _ _) (by rw [a1]) | exact qsv (u := .bool false) (sin_any _ _ _ _) (by rw [a2])))
      go_wp2
      go_ret
      exact ⟨rfl, (by (try with_reducible refine bsz ?_); repeat (first | with_reducible exact Below.refl _ _ | ((with_reducible refine bpre ?_); (try simp only [Array.append_assoc]); repeat (first | with_reducible exact Pre.refl _ | with_reducible exact Pre.base _ _ | with_reducible refine Pre.cons _ ?_)) | with_reducible assumption | ((with_reducible refine bsetr ?_); rfl) | with_reducible refine Below.setCell ?_ (by simp <;> omega) _ | with_reducible refine bpl ?_ _ _ | with_reducible refine bal ?_ _ | with_reducible refine bdrew1 ?_ | with_reducible refine bdrew ?_ _))⟩
    · obtain ⟨b1, b2⟩ := inB_iff.1 a1
      obtain ⟨b3, b4⟩ := inB_iff.1 a2
      obtain ⟨i1, i2⟩ := absI_bd p
      have HG := Lib.hid (gcd_absI p q)
      have hv : Hid (frOk p q = ((Int.gcd p q : Int) == 1)) := by
        show frOk p q = _
        rw [Bool.eq_iff_iff, frOk_iff]; simp; omega
      go_enter Try.func146, Try.ntmps146
      go_wp2
      go_quiet (first | (go_at_call 150; first | exact qsv (u := .bool true) (sin_any _ _ _ _) (by rw [a1]) | exact qsv (u := .bool true) (sin_any _ _ _ _) (by rw [a2])) | (go_at_call 197; exact qsv (u := .int .i64 (absI p)) (sabs_any _ _ (by omega) (by omega)) rfl) | (go_at_call 196; exact qsv (u := .int .i64 (Int.gcd p q : Int)) (scommon_any _ _ _ (by omega) (by omega) (by omega) (by omega)) (by rw [HG.out])))
      go_wp2
      go_ret
      exact ⟨ret_bool (by rw [hv.out]), (by (try with_reducible refine bsz ?_); repeat (first | with_reducible exact Below.refl _ _ | ((with_reducible refine bpre ?_); (try simp only [Array.append_assoc]); repeat (first | with_reducible exact Pre.refl _ | with_reducible exact Pre.base _ _ | with_reducible refine Pre.cons _ ?_)) | with_reducible assumption | ((with_reducible refine bsetr ?_); rfl) | with_reducible refine Below.setCell ?_ (by simp <;> omega) _ | with_reducible refine bpl ?_ _ _ | with_reducible refine bal ?_ _ | with_reducible refine bdrew1 ?_ | with_reducible refine bdrew ?_ _))⟩

theorem sopp_any (p q : Int) (w : World) (h : -9223372036854775808 < p) (h2 : p ≤ 9223372036854775807) :
    Calls Try.prog 227 #[.agg #[.int .i64 p, .int .i64 q]] w fun e w' => e = .returned (.agg #[.int .i64 (-p), .int .i64 q]) ∧ Below w.heap.size w w' := by
  go_enter Try.func227, Try.ntmps227
  go_wp2
  exact bodyPost_ret (v := .agg #[.int .i64 (-p), .int .i64 q]) (by simp [results, Try.results227, go_sem]) rfl ⟨rfl, (by (try with_reducible refine bsz ?_); repeat (first | with_reducible exact Below.refl _ _ | ((with_reducible refine bpre ?_); (try simp only [Array.append_assoc]); repeat (first | with_reducible exact Pre.refl _ | with_reducible exact Pre.base _ _ | with_reducible refine Pre.cons _ ?_)) | with_reducible assumption | ((with_reducible refine bsetr ?_); rfl) | with_reducible refine Below.setCell ?_ (by simp <;> omega) _ | with_reducible refine bpl ?_ _ _ | with_reducible refine bal ?_ _ | with_reducible refine bdrew1 ?_ | with_reducible refine bdrew ?_ _))⟩

theorem sadd_any (p q r s : Int) (w : World)
    (h1 : -1000000000 ≤ p) (h2 : p ≤ 1000000000) (h3 : 1 ≤ q) (h4 : q ≤ 1000000000) (h5 : -1000000000 ≤ r) (h6 : r ≤ 1000000000) (h7 : 1 ≤ s) (h8 : s ≤ 1000000000) :
    Calls Try.prog 136 #[.agg #[.int .i64 p, .int .i64 q], .agg #[.int .i64 r, .int .i64 s]] w fun e w' => e = .returned (.tuple #[.agg #[.int .i64 (resP (addX p q r s) (addY p q r s)), .int .i64 (resQ (addX p q r s) (addY p q r s))], .int .i64 (resC (addX p q r s) (addY p q r s))]) ∧ Below w.heap.size w w' := by
  obtain ⟨b1, b2⟩ := mul_bd p s h1 h2 (by omega) h8
  obtain ⟨b3, b4⟩ := mul_bd r q h5 h6 (by omega) h4
  obtain ⟨b5, b6⟩ := mul_bd q s (by omega) h4 (by omega) h8
  have b7 := Int.mul_pos (show 0 < q by omega) (show 0 < s by omega)
  go_enter Try.func136, Try.ntmps136
  go_wp2_with (first | (go_at_call 181; refine Calls.mono (slowest_any _ _ _ (by omega) (by omega) (by omega) (by omega) (by omega)) ?_; rintro e w1 ⟨rfl, hb⟩; obtain ⟨X, m, rfl⟩ := plsOf hb; clear hb))
  exact bodyPost_ret (v := .tuple #[.agg #[.int .i64 (resP (addX p q r s) (addY p q r s)), .int .i64 (resQ (addX p q r s) (addY p q r s))], .int .i64 (resC (addX p q r s) (addY p q r s))]) (by simp [results, Try.results136, go_sem, addX, addY]) rfl ⟨rfl, (by (try with_reducible refine bsz ?_); repeat (first | with_reducible exact Below.refl _ _ | ((with_reducible refine bpre ?_); (try simp only [Array.append_assoc]); repeat (first | with_reducible exact Pre.refl _ | with_reducible exact Pre.base _ _ | with_reducible refine Pre.cons _ ?_)) | with_reducible assumption | ((with_reducible refine bsetr ?_); rfl) | with_reducible refine Below.setCell ?_ (by simp <;> omega) _ | with_reducible refine bpl ?_ _ _ | with_reducible refine bal ?_ _ | with_reducible refine bdrew1 ?_ | with_reducible refine bdrew ?_ _))⟩

theorem smul_any (p q r s : Int) (w : World)
    (h1 : -1000000000 ≤ p) (h2 : p ≤ 1000000000) (h3 : 1 ≤ q) (h4 : q ≤ 1000000000) (h5 : -1000000000 ≤ r) (h6 : r ≤ 1000000000) (h7 : 1 ≤ s) (h8 : s ≤ 1000000000) :
    Calls Try.prog 159 #[.agg #[.int .i64 p, .int .i64 q], .agg #[.int .i64 r, .int .i64 s]] w fun e w' => e = .returned (.tuple #[.agg #[.int .i64 (resP (mulX p q r s) (mulY p q r s)), .int .i64 (resQ (mulX p q r s) (mulY p q r s))], .int .i64 (resC (mulX p q r s) (mulY p q r s))]) ∧ Below w.heap.size w w' := by
  obtain ⟨b1, b2⟩ := mul_bd p r h1 h2 (by omega) h6
  obtain ⟨b5, b6⟩ := mul_bd q s (by omega) h4 (by omega) h8
  have b7 := Int.mul_pos (show 0 < q by omega) (show 0 < s by omega)
  go_enter Try.func159, Try.ntmps159
  go_wp2_with (first | (go_at_call 181; refine Calls.mono (slowest_any _ _ _ (by omega) (by omega) (by omega) (by omega) (by omega)) ?_; rintro e w1 ⟨rfl, hb⟩; obtain ⟨X, m, rfl⟩ := plsOf hb; clear hb))
  exact bodyPost_ret (v := .tuple #[.agg #[.int .i64 (resP (mulX p q r s) (mulY p q r s)), .int .i64 (resQ (mulX p q r s) (mulY p q r s))], .int .i64 (resC (mulX p q r s) (mulY p q r s))]) (by simp [results, Try.results159, go_sem, mulX, mulY]) rfl ⟨rfl, (by (try with_reducible refine bsz ?_); repeat (first | with_reducible exact Below.refl _ _ | ((with_reducible refine bpre ?_); (try simp only [Array.append_assoc]); repeat (first | with_reducible exact Pre.refl _ | with_reducible exact Pre.base _ _ | with_reducible refine Pre.cons _ ?_)) | with_reducible assumption | ((with_reducible refine bsetr ?_); rfl) | with_reducible refine Below.setCell ?_ (by simp <;> omega) _ | with_reducible refine bpl ?_ _ _ | with_reducible refine bal ?_ _ | with_reducible refine bdrew1 ?_ | with_reducible refine bdrew ?_ _))⟩

theorem sdiv_any (p q r s : Int) (w : World)
    (h1 : -1000000000 ≤ p) (h2 : p ≤ 1000000000) (h3 : 1 ≤ q) (h4 : q ≤ 1000000000) (h5 : -1000000000 ≤ r) (h6 : r ≤ 1000000000) (h7 : 1 ≤ s) (h8 : s ≤ 1000000000) (h9 : r ≠ 0) :
    Calls Try.prog 138 #[.agg #[.int .i64 p, .int .i64 q], .agg #[.int .i64 r, .int .i64 s]] w fun e w' => e = .returned (.tuple #[.agg #[.int .i64 (resP (divX p q r s) (divY p q r s)), .int .i64 (resQ (divX p q r s) (divY p q r s))], .int .i64 (resC (divX p q r s) (divY p q r s))]) ∧ Below w.heap.size w w' := by
  obtain ⟨b1, b2⟩ := mul_bd p s h1 h2 (by omega) h8
  obtain ⟨b5, b6⟩ := mul_bd q r (by omega) h4 (by omega) h6
  have b7 : q * r ≠ 0 := Int.mul_ne_zero (by omega) h9
  go_enter Try.func138, Try.ntmps138
  go_wp2_with (first | (go_at_call 181; refine Calls.mono (slowest_any _ _ _ (by omega) (by omega) (by omega) (by omega) (by omega)) ?_; rintro e w1 ⟨rfl, hb⟩; obtain ⟨X, m, rfl⟩ := plsOf hb; clear hb))
  exact bodyPost_ret (v := .tuple #[.agg #[.int .i64 (resP (divX p q r s) (divY p q r s)), .int .i64 (resQ (divX p q r s) (divY p q r s))], .int .i64 (resC (divX p q r s) (divY p q r s))]) (by simp [results, Try.results138, go_sem, divX, divY]) rfl ⟨rfl, (by (try with_reducible refine bsz ?_); repeat (first | with_reducible exact Below.refl _ _ | ((with_reducible refine bpre ?_); (try simp only [Array.append_assoc]); repeat (first | with_reducible exact Pre.refl _ | with_reducible exact Pre.base _ _ | with_reducible refine Pre.cons _ ?_)) | with_reducible assumption | ((with_reducible refine bsetr ?_); rfl) | with_reducible refine Below.setCell ?_ (by simp <;> omega) _ | with_reducible refine bpl ?_ _ _ | with_reducible refine bal ?_ _ | with_reducible refine bdrew1 ?_ | with_reducible refine bdrew ?_ _))⟩

theorem ssub_any (p q r s : Int) (w : World)
    (h1 : -1000000000 ≤ p) (h2 : p ≤ 1000000000) (h3 : 1 ≤ q) (h4 : q ≤ 1000000000) (h5 : -1000000000 ≤ r) (h6 : r ≤ 1000000000) (h7 : 1 ≤ s) (h8 : s ≤ 1000000000) :
    Calls Try.prog 209 #[.agg #[.int .i64 p, .int .i64 q], .agg #[.int .i64 r, .int .i64 s]] w fun e w' => e = .returned (.tuple #[.agg #[.int .i64 (resP (addX p q (-r) s) (addY p q (-r) s)), .int .i64 (resQ (addX p q (-r) s) (addY p q (-r) s))], .int .i64 (resC (addX p q (-r) s) (addY p q (-r) s))]) ∧ Below w.heap.size w w' := by
  go_enter Try.func209, Try.ntmps209
  go_wp2
  go_region_held3 (fun w' => w'.cell? ⟨w.heap.size, 0, none⟩ = some (.int .i64 p) ∧ w'.cell? ⟨w.heap.size, 1, none⟩ = some (.int .i64 q) ∧ w'.cell? ⟨w.heap.size + 1, 0, none⟩ = some (.int .i64 r) ∧ w'.cell? ⟨w.heap.size + 1, 1, none⟩ = some (.int .i64 s)) (simp [*, go_sem]) (first | (go_at_call 227; refine Calls.mono (sopp_any _ _ _ (by omega) (by omega)) ?_; rintro e w1 ⟨rfl, hb⟩; obtain ⟨X, m, rfl⟩ := plsOf hb; clear hb) | (go_at_call 136; refine Calls.mono (sadd_any _ _ _ _ _ h1 h2 h3 h4 (by omega) (by omega) h7 h8) ?_; rintro e w1 ⟨rfl, hb⟩; obtain ⟨X, m, rfl⟩ := plsOf hb; clear hb))
  go_wp2
  exact bodyPost_ret (v := .tuple #[.agg #[.int .i64 (resP (addX p q (-r) s) (addY p q (-r) s)), .int .i64 (resQ (addX p q (-r) s) (addY p q (-r) s))], .int .i64 (resC (addX p q (-r) s) (addY p q (-r) s))]) (by simp [results, Try.results209, go_sem]) rfl ⟨rfl, (by (try with_reducible refine bsz ?_); repeat (first | with_reducible exact Below.refl _ _ | ((with_reducible refine bpre ?_); (try simp only [Array.append_assoc]); repeat (first | with_reducible exact Pre.refl _ | with_reducible exact Pre.base _ _ | with_reducible refine Pre.cons _ ?_)) | with_reducible assumption | ((with_reducible refine bsetr ?_); rfl) | with_reducible refine Below.setCell ?_ (by simp <;> omega) _ | with_reducible refine bpl ?_ _ _ | with_reducible refine bal ?_ _ | with_reducible refine bdrew1 ?_ | with_reducible refine bdrew ?_ _))⟩

end Go.Proofs.Ytjpnjokaeojnjaa

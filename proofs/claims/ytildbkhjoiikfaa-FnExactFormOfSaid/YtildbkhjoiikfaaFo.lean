/- The value of a form: impl.FormOf, spec.FormOf. -/
import Derived.Test.YtildbkhjoiikfaaMx
namespace Go.Proofs.Ytildbkhjoiikfaa
open Go.ChangeShapes Go.WideShapes Go.ChangeAt Go.RowKit
set_option linter.unusedVariables false
set_option linter.unusedSimpArgs false
attribute [local irreducible] Calls
set_option maxHeartbeats 2000000 in
theorem FormOf_any (w : World) (xss : List (List (Int × Int))) (xs : List (Int × Int)) (v v' : Value) (h : Lst (shL shFr) w xss v) (h' : Lst shFr w xs v') :
    Calls Try.prog 31 #[v, v'] w fun e w' => e = .returned (.tuple #[.agg #[.int .i64 (cP (formC (matOk xss) xss.length xs.length xs) (formO xss xs)), .int .i64 (cQ (formC (matOk xss) xss.length xs.length xs) (formO xss xs))], .int .i64 (cC (formC (matOk xss) xss.length xs.length xs) (formO xss xs))]) ∧ Below w.heap.size w w' := by
  obtain ⟨A0, cap0, rfl, hc0, hm0, hel0⟩ := lstFrSS h
  obtain ⟨A1, cap1, rfl, hc1, hm1, _, hel1⟩ := lstFraction h'
  unfold maxLen at hm0 hm1
  cases hv : matOk xss
  · have e1 : formC false xss.length xs.length xs = 1 := by simp [formC]
    rw [e1]
    go_enter Try.func31, Try.ntmps31
    go_wp2_with (first | (go_at_call 87; refine Calls.mono (ValidMatrix_any _ xss _ (h.below (by (try with_reducible refine bsz ?_); repeat (first | with_reducible exact Below.refl _ _ | ((with_reducible refine bpre ?_); (try simp only [Array.append_assoc]); repeat (first | with_reducible exact Pre.refl _ | with_reducible exact Pre.base _ _ | with_reducible refine Pre.cons _ ?_)) | with_reducible assumption | ((with_reducible refine bsetr ?_); rfl) | with_reducible refine Below.setCell ?_ (by simp <;> omega) _ | with_reducible refine bpl ?_ _ _ | with_reducible refine bal ?_ _ | with_reducible refine bdrew1 ?_ | with_reducible refine bdrew ?_ _)))) ?_; rintro e w1 ⟨rfl, hb⟩; obtain ⟨X, m, rfl⟩ := plsOf hb; clear hb))
    exact bodyPost_ret (v := .tuple #[.agg #[.int .i64 0, .int .i64 0], .int .i64 1]) (by simp [results, Try.results31, go_sem]) rfl ⟨rfl, (by (try with_reducible refine bsz ?_); repeat (first | with_reducible exact Below.refl _ _ | ((with_reducible refine bpre ?_); (try simp only [Array.append_assoc]); repeat (first | with_reducible exact Pre.refl _ | with_reducible exact Pre.base _ _ | with_reducible refine Pre.cons _ ?_)) | with_reducible assumption | ((with_reducible refine bsetr ?_); rfl) | with_reducible refine Below.setCell ?_ (by simp <;> omega) _ | with_reducible refine bpl ?_ _ _ | with_reducible refine bal ?_ _ | with_reducible refine bdrew1 ?_ | with_reducible refine bdrew ?_ _))⟩
  · cases hv' : listOk xs
    · have e1 : formC true xss.length xs.length xs = 1 := by simp [formC, hv']
      rw [e1]
      go_enter Try.func31, Try.ntmps31
      (go_wp2_with fail; refine Calls.mono (ValidMatrix_any _ xss _ (h.below (by (try with_reducible refine bsz ?_); repeat (first | with_reducible exact Below.refl _ _ | ((with_reducible refine bpre ?_); (try simp only [Array.append_assoc]); repeat (first | with_reducible exact Pre.refl _ | with_reducible exact Pre.base _ _ | with_reducible refine Pre.cons _ ?_)) | with_reducible assumption | ((with_reducible refine bsetr ?_); rfl) | with_reducible refine Below.setCell ?_ (by simp <;> omega) _ | with_reducible refine bpl ?_ _ _ | with_reducible refine bal ?_ _ | with_reducible refine bdrew1 ?_ | with_reducible refine bdrew ?_ _)))) ?_; rintro e0 w1 ⟨rfl, hb⟩; obtain ⟨X0, m0, rfl⟩ := plsOf hb; clear hb)
      go_wp2_with (first | (go_at_call 88; refine Calls.mono (validList_any _ xs _ (h'.below (by (try with_reducible refine bsz ?_); repeat (first | with_reducible exact Below.refl _ _ | ((with_reducible refine bpre ?_); (try simp only [Array.append_assoc]); repeat (first | with_reducible exact Pre.refl _ | with_reducible exact Pre.base _ _ | with_reducible refine Pre.cons _ ?_)) | with_reducible assumption | ((with_reducible refine bsetr ?_); rfl) | with_reducible refine Below.setCell ?_ (by simp <;> omega) _ | with_reducible refine bpl ?_ _ _ | with_reducible refine bal ?_ _ | with_reducible refine bdrew1 ?_ | with_reducible refine bdrew ?_ _)))) ?_; rintro e w1 ⟨rfl, hb⟩; obtain ⟨X, m, rfl⟩ := plsOf hb; clear hb))
      exact bodyPost_ret (v := .tuple #[.agg #[.int .i64 0, .int .i64 0], .int .i64 1]) (by simp [results, Try.results31, go_sem]) rfl ⟨rfl, (by (try with_reducible refine bsz ?_); repeat (first | with_reducible exact Below.refl _ _ | ((with_reducible refine bpre ?_); (try simp only [Array.append_assoc]); repeat (first | with_reducible exact Pre.refl _ | with_reducible exact Pre.base _ _ | with_reducible refine Pre.cons _ ?_)) | with_reducible assumption | ((with_reducible refine bsetr ?_); rfl) | with_reducible refine Below.setCell ?_ (by simp <;> omega) _ | with_reducible refine bpl ?_ _ _ | with_reducible refine bal ?_ _ | with_reducible refine bdrew1 ?_ | with_reducible refine bdrew ?_ _))⟩
    · by_cases hl : xss.length = xs.length
      · have e1 : formC true xss.length xs.length xs = 0 := by simp [formC, hv', hl]
        rw [e1, cP_0, cQ_0, cC_0]
        have hl1 : ((xss.length : Int) != (xs.length : Int)) = false := by simp [hl]
        have HL := Lib.hid hl
        have HM := Lib.hid (matOk_iff hv)
        have HI := Lib.hid (listOk_in hv')
        have H0 := Lib.hid hel0
        have H1 := Lib.hid hel1
        clear hl hel0 hel1
        go_enter Try.func31, Try.ntmps31
        (go_wp2_with fail; refine Calls.mono (ValidMatrix_any _ xss _ (h.below (by (try with_reducible refine bsz ?_); repeat (first | with_reducible exact Below.refl _ _ | ((with_reducible refine bpre ?_); (try simp only [Array.append_assoc]); repeat (first | with_reducible exact Pre.refl _ | with_reducible exact Pre.base _ _ | with_reducible refine Pre.cons _ ?_)) | with_reducible assumption | ((with_reducible refine bsetr ?_); rfl) | with_reducible refine Below.setCell ?_ (by simp <;> omega) _ | with_reducible refine bpl ?_ _ _ | with_reducible refine bal ?_ _ | with_reducible refine bdrew1 ?_ | with_reducible refine bdrew ?_ _)))) ?_; rintro e0 w1 ⟨rfl, hb⟩; obtain ⟨X0, m0, rfl⟩ := plsOf hb; clear hb)
        (go_wp2_with fail; refine Calls.mono (validList_any _ xs _ (h'.below (by (try with_reducible refine bsz ?_); repeat (first | with_reducible exact Below.refl _ _ | ((with_reducible refine bpre ?_); (try simp only [Array.append_assoc]); repeat (first | with_reducible exact Pre.refl _ | with_reducible exact Pre.base _ _ | with_reducible refine Pre.cons _ ?_)) | with_reducible assumption | ((with_reducible refine bsetr ?_); rfl) | with_reducible refine Below.setCell ?_ (by simp <;> omega) _ | with_reducible refine bpl ?_ _ _ | with_reducible refine bal ?_ _ | with_reducible refine bdrew1 ?_ | with_reducible refine bdrew ?_ _)))) ?_; rintro e0 w1 ⟨rfl, hb⟩; obtain ⟨X1, m1, rfl⟩ := plsOf hb; clear hb)
        (go_wp2_with fail; refine Calls.mono (zero_any _) ?_; rintro e0 w1 ⟨rfl, hb⟩; obtain ⟨X2, m2, rfl⟩ := plsOf hb; clear hb)
        go_wp2_with fail
        go_loopw [31] (fun i wr => ∃ (k : Nat) (d : Int × Int) (g : Bool), k ≤ xss.length ∧ i = .int .i64 k ∧ Tr (formT xss xs k) d g ∧ wr.heap[w.heap.size + 1 + (X0.size + (X1.size + X2.size))]? = some (.cells #[.bool g] 129 (0, 0)) ∧ wr.heap[w.heap.size + 1 + (X0.size + (X1.size + X2.size)) + 1]? = some (.cells #[.int .i64 d.1, .int .i64 d.2] 46 (0, 0)) ∧ wr.heap[w.heap.size]? = some (.cells #[.int .i64 0, .int .i64 0] 46 (0, 0)) ∧ Below w.heap.size w wr) (fun i _ => xss.length - (intOf i).toNat)
        case atStart => exact ⟨0, (0, 1), false, Nat.zero_le _, rfl, Tr.zero, (by repeat (first | with_reducible assumption | with_reducible refine pls_block _ _ ?_ | with_reducible apply blkset2 | with_reducible apply blkset1 | ((with_reducible refine blksetN ?_ ?_ _); (focus (simp <;> omega))) | with_reducible exact blknew _ _ | ((with_reducible refine blknew' _ _ _ ?_); (simp <;> omega)) | with_reducible refine blkal ?_ _)), (by repeat (first | with_reducible assumption | with_reducible refine pls_block _ _ ?_ | with_reducible apply blkset2 | with_reducible apply blkset1 | ((with_reducible refine blksetN ?_ ?_ _); (focus (simp <;> omega))) | with_reducible exact blknew _ _ | ((with_reducible refine blknew' _ _ _ ?_); (simp <;> omega)) | with_reducible refine blkal ?_ _)), (by repeat (first | with_reducible assumption | with_reducible refine pls_block _ _ ?_ | with_reducible apply blkset2 | with_reducible apply blkset1 | ((with_reducible refine blksetN ?_ ?_ _); (focus (simp <;> omega))) | with_reducible exact blknew _ _ | ((with_reducible refine blknew' _ _ _ ?_); (simp <;> omega)) | with_reducible refine blkal ?_ _)), (by (try with_reducible refine bsz ?_); repeat (first | with_reducible exact Below.refl _ _ | ((with_reducible refine bpre ?_); (try simp only [Array.append_assoc]); repeat (first | with_reducible exact Pre.refl _ | with_reducible exact Pre.base _ _ | with_reducible refine Pre.cons _ ?_)) | with_reducible assumption | ((with_reducible refine bsetr ?_); rfl) | with_reducible refine Below.setCell ?_ (by simp <;> omega) _ | with_reducible refine bpl ?_ _ _ | with_reducible refine bal ?_ _ | with_reducible refine bdrew1 ?_ | with_reducible refine bdrew ?_ _))⟩
        case round =>
          obtain ⟨k, d, g, hk, rfl, ht, b0, b1, b2, hB⟩ := hrel
          have HT := Lib.hid ht
          have hdI := ht.1
          clear ht
          obtain ⟨s0, f0⟩ := blk1 b0
          obtain ⟨s1, s2, f1, f2⟩ := blk2 b1
          obtain ⟨s3, s4, f3, f4⟩ := blk2 b2
          have z0 := blklt b0
          have z1 := blklt b1
          have z2 := blklt b2
          have B0 := Lib.hid b0
          have B1 := Lib.hid b1
          have B2 := Lib.hid b2
          clear b0 b1 b2
          by_cases hlt : k < xss.length
          · have hlt2 : k < xs.length := by have := HL.out; omega
            obtain ⟨bl, off, rfl, hel0⟩ := H0.out (by omega)
            obtain ⟨bl', off', rfl, hel1⟩ := H1.out (by omega)
            clear H0 H1
            obtain ⟨row, vi, hr, hLr, c0⟩ := hel0 k hlt
            obtain ⟨x, hx, hok, d0, d1⟩ := hel1 k hlt2
            clear hel0 hel1
            have hmem := HI.out x (List.mem_of_getElem? hx)
            obtain ⟨hr1, hr2⟩ := HM.out.2.1 row (List.mem_of_getElem? hr)
            have hrl : row.length ≤ xs.length := by have := HL.out; omega
            have hrb : row.length ≤ 1000000 := by have := HM.out.1; omega
            have HR := Lib.hid hr
            have HX := Lib.hid hx
            have HRI := Lib.hid (listOk_in hr2)
            have hLr1 := hLr.below hB
            have hLx1 := h'.below hB
            have z3 : bl' < w.heap.size := World.block_lt_of_cell? _ _ d0
            have hz := hB.size
            replace c0 := bkeep hB c0
            replace d0 := bkeep hB d0
            replace d1 := bkeep hB d1
            have zz : bl' < wr.heap.size := by omega
            clear hr hx hr1 hr2 hLr
            go_wp2_with fail
            go_region_law (first | (go_simp; go_at_call 92; refine Calls.mono (dot_any _ _ _ g row xs _ _ (hLr1.below (by (try with_reducible refine bsz ?_); repeat (first | with_reducible exact Below.refl _ _ | ((with_reducible refine bpre ?_); (try simp only [Array.append_assoc]); repeat (first | with_reducible exact Pre.refl _ | with_reducible exact Pre.base _ _ | with_reducible refine Pre.cons _ ?_)) | with_reducible assumption | ((with_reducible refine bsetr ?_); rfl) | with_reducible refine Below.setCell ?_ (by simp <;> omega) _ | with_reducible refine bpl ?_ _ _ | with_reducible refine bal ?_ _ | with_reducible refine bdrew1 ?_ | with_reducible refine bdrew ?_ _))) (hLx1.below (by (try with_reducible refine bsz ?_); repeat (first | with_reducible exact Below.refl _ _ | ((with_reducible refine bpre ?_); (try simp only [Array.append_assoc]); repeat (first | with_reducible exact Pre.refl _ | with_reducible exact Pre.base _ _ | with_reducible refine Pre.cons _ ?_)) | with_reducible assumption | ((with_reducible refine bsetr ?_); rfl) | with_reducible refine Below.setCell ?_ (by simp <;> omega) _ | with_reducible refine bpl ?_ _ _ | with_reducible refine bal ?_ _ | with_reducible refine bdrew1 ?_ | with_reducible refine bdrew ?_ _))) HRI.out HI.out hrl hrb (by first | assumption | simp [go_sem, *]) (by first | assumption | simp [go_sem, *])) ?_; rintro e w1 ⟨d9, g9, rfl, hT9, hF9⟩; obtain ⟨X, m, rfl⟩ := plsOf hF9.raw; have HT9 := Lib.hid hT9; have hd9 := hT9.1; clear hF9 hT9) | (go_simp; go_at_call 91; refine Calls.mono (kmul_any _ _ g9 d9 x _ (by first | omega | (simp <;> omega)) (by first | assumption | simp [go_sem, *]) (by first | assumption | simp [go_sem, *]) hd9 hmem) ?_; rintro e w1 ⟨rfl, hb⟩; obtain ⟨X, m, rfl⟩ := plsOfS hb; clear hb) | (go_simp; go_at_call 90; refine Calls.mono (kadd_any _ _ (g9 || noB (mulO d9 x)) d (kD (mulO d9 x)) _ (by first | omega | (simp <;> omega)) (by first | assumption | simp [go_sem, *]) (by first | assumption | simp [go_sem, *]) hdI (kmulI hd9 hmem)) ?_; rintro e w1 ⟨rfl, hb⟩; obtain ⟨X, m, rfl⟩ := plsOfS hb; clear hb))
            all_goals (go_wp2_with fail)
            all_goals (
              go_roundw
              case rel =>
                have b0 := B0.out
                have b1 := B1.out
                have b2 := B2.out
                exact ⟨k + 1, kD (addO d (kD (mulO d9 x))), (g9 || noB (mulO d9 x)) || noB (addO d (kD (mulO d9 x))), by omega, by go_num, by rw [formT_succ HR.out HX.out]; exact HT.out.form HT9.out hmem, (by repeat (first | with_reducible assumption | with_reducible refine pls_block _ _ ?_ | with_reducible apply blkset2 | with_reducible apply blkset1 | ((with_reducible refine blksetN ?_ ?_ _); (focus (simp <;> omega))) | with_reducible exact blknew _ _ | ((with_reducible refine blknew' _ _ _ ?_); (simp <;> omega)) | with_reducible refine blkal ?_ _)), (by repeat (first | with_reducible assumption | with_reducible refine pls_block _ _ ?_ | with_reducible apply blkset2 | with_reducible apply blkset1 | ((with_reducible refine blksetN ?_ ?_ _); (focus (simp <;> omega))) | with_reducible exact blknew _ _ | ((with_reducible refine blknew' _ _ _ ?_); (simp <;> omega)) | with_reducible refine blkal ?_ _)), (by repeat (first | with_reducible assumption | with_reducible refine pls_block _ _ ?_ | with_reducible apply blkset2 | with_reducible apply blkset1 | ((with_reducible refine blksetN ?_ ?_ _); (focus (simp <;> omega))) | with_reducible exact blknew _ _ | ((with_reducible refine blknew' _ _ _ ?_); (simp <;> omega)) | with_reducible refine blkal ?_ _)), (by (try with_reducible refine bsz ?_); repeat (first | with_reducible exact Below.refl _ _ | ((with_reducible refine bpre ?_); (try simp only [Array.append_assoc]); repeat (first | with_reducible exact Pre.refl _ | with_reducible exact Pre.base _ _ | with_reducible refine Pre.cons _ ?_)) | with_reducible assumption | ((with_reducible refine bsetr ?_); rfl) | with_reducible refine Below.setCell ?_ (by simp <;> omega) _ | with_reducible refine bpl ?_ _ _ | with_reducible refine bal ?_ _ | with_reducible refine bdrew1 ?_ | with_reducible refine bdrew ?_ _))⟩
              case measure => simp [intOf]; omega)
          · have e : k = xss.length := by omega
            subst e
            have HT1 := HT.out
            rw [formT_all] at HT1
            have HT1 := Lib.hid HT1
            go_wp2_with (first | (go_at_call 93; refine Calls.mono (ktold_any _ _ g d (formO xss xs) _ (by first | omega | (simp <;> omega)) (by first | assumption | simp [go_sem, *]) HT1.out) ?_; rintro e w1 ⟨rfl, hb⟩; obtain ⟨X, m, rfl⟩ := plsOf hb; clear hb))
            exact bodyPost_ret (v := .tuple #[.agg #[.int .i64 (rD (formO xss xs)).1, .int .i64 (rD (formO xss xs)).2], .int .i64 (rC (formO xss xs))]) (by simp [results, Try.results31, go_sem, *]) rfl ⟨rfl, (by (try with_reducible refine bsz ?_); repeat (first | with_reducible exact Below.refl _ _ | ((with_reducible refine bpre ?_); (try simp only [Array.append_assoc]); repeat (first | with_reducible exact Pre.refl _ | with_reducible exact Pre.base _ _ | with_reducible refine Pre.cons _ ?_)) | with_reducible assumption | ((with_reducible refine bsetr ?_); rfl) | with_reducible refine Below.setCell ?_ (by simp <;> omega) _ | with_reducible refine bpl ?_ _ _ | with_reducible refine bal ?_ _ | with_reducible refine bdrew1 ?_ | with_reducible refine bdrew ?_ _))⟩
      · have e1 : formC true xss.length xs.length xs = 2 := by simp [formC, hv', hl]
        rw [e1]
        have hl1 : ((xss.length : Int) != (xs.length : Int)) = true := by simp; omega
        clear hl
        go_enter Try.func31, Try.ntmps31
        (go_wp2_with fail; refine Calls.mono (ValidMatrix_any _ xss _ (h.below (by (try with_reducible refine bsz ?_); repeat (first | with_reducible exact Below.refl _ _ | ((with_reducible refine bpre ?_); (try simp only [Array.append_assoc]); repeat (first | with_reducible exact Pre.refl _ | with_reducible exact Pre.base _ _ | with_reducible refine Pre.cons _ ?_)) | with_reducible assumption | ((with_reducible refine bsetr ?_); rfl) | with_reducible refine Below.setCell ?_ (by simp <;> omega) _ | with_reducible refine bpl ?_ _ _ | with_reducible refine bal ?_ _ | with_reducible refine bdrew1 ?_ | with_reducible refine bdrew ?_ _)))) ?_; rintro e0 w1 ⟨rfl, hb⟩; obtain ⟨X0, m0, rfl⟩ := plsOf hb; clear hb)
        (go_wp2_with fail; refine Calls.mono (validList_any _ xs _ (h'.below (by (try with_reducible refine bsz ?_); repeat (first | with_reducible exact Below.refl _ _ | ((with_reducible refine bpre ?_); (try simp only [Array.append_assoc]); repeat (first | with_reducible exact Pre.refl _ | with_reducible exact Pre.base _ _ | with_reducible refine Pre.cons _ ?_)) | with_reducible assumption | ((with_reducible refine bsetr ?_); rfl) | with_reducible refine Below.setCell ?_ (by simp <;> omega) _ | with_reducible refine bpl ?_ _ _ | with_reducible refine bal ?_ _ | with_reducible refine bdrew1 ?_ | with_reducible refine bdrew ?_ _)))) ?_; rintro e0 w1 ⟨rfl, hb⟩; obtain ⟨X1, m1, rfl⟩ := plsOf hb; clear hb)
        go_wp2_with fail
        exact bodyPost_ret (v := .tuple #[.agg #[.int .i64 0, .int .i64 0], .int .i64 2]) (by simp [results, Try.results31, go_sem]) rfl ⟨rfl, (by (try with_reducible refine bsz ?_); repeat (first | with_reducible exact Below.refl _ _ | ((with_reducible refine bpre ?_); (try simp only [Array.append_assoc]); repeat (first | with_reducible exact Pre.refl _ | with_reducible exact Pre.base _ _ | with_reducible refine Pre.cons _ ?_)) | with_reducible assumption | ((with_reducible refine bsetr ?_); rfl) | with_reducible refine Below.setCell ?_ (by simp <;> omega) _ | with_reducible refine bpl ?_ _ _ | with_reducible refine bal ?_ _ | with_reducible refine bdrew1 ?_ | with_reducible refine bdrew ?_ _))⟩
end Go.Proofs.Ytildbkhjoiikfaa

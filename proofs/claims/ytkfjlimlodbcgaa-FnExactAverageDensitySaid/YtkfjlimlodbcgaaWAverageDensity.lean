/- The walk of FnExactAverageDensity, with what both sides return as hypotheses. -/
import Derived.Test.YtkfjlimlodbcgaaSl
import Derived.Test.YtkfjlimlodbcgaaTSum
import Derived.Deep.DeepCutAuto
import Derived.Deep.RegionHeld3
namespace Go.Proofs.Ytkfjlimlodbcgaa
open Go.ChangeShapes Go.WideShapes Go.ChangeAt Go.RowKit
set_option linter.unusedVariables false
set_option linter.unusedSimpArgs false
attribute [local irreducible] Calls
set_option maxHeartbeats 4000000 in
set_option maxRecDepth 100000 in
theorem walkAverageDensity (a0 : Int) (a1 : Int) (a2 : Int) (b0 : Int) (b1 : Int) (r00 : Int) (r01 : Int) (r10 : Int) (HI0 : ∀ (W : World), Calls Try.prog 10 #[.agg #[.int .i64 a0, .int .i64 a1, .int .u32 a2], .agg #[.int .i64 b0, .int .u32 b1]] W fun e W' => e = .returned (.tuple #[.agg #[.int .i64 r00, .int .i64 r01], .int .i64 r10]) ∧ Below W.heap.size W W') (HS0 : ∀ (W : World), Calls Try.prog 7 #[.agg #[.int .i64 a0, .int .i64 a1, .int .u32 a2], .agg #[.int .i64 b0, .int .u32 b1]] W fun e W' => e = .returned (.tuple #[.agg #[.int .i64 r00, .int .i64 r01], .int .i64 r10]) ∧ Below W.heap.size W W') (w : World) :
    Calls Try.prog 3 #[.agg #[.int .i64 a0, .int .i64 a1, .int .u32 a2], .agg #[.int .i64 b0, .int .u32 b1]] w fun e0 w' => e0 = .returned (.bool true) ∧ Below w.heap.size w w' := by
  have HI := Lib.hid HI0
  have HS := Lib.hid HS0
  clear HI0 HS0
  have qr00 : (r00 != r00) = false := by simp
  have qr01 : (r01 != r01) = false := by simp
  have qr10 : (r10 != r10) = false := by simp
  go_enter Try.func3, Try.ntmps3
  go_upto_region 1 with fail
  go_cut [5, 6] (fun s5 s6 wx => ∃ (g5 : Nat), s5 = .pointer (some ⟨g5, 0, none⟩) ∧ s6 = .int .i64 r10 ∧ Below w.heap.size w wx ∧ w.heap.size + 2 ≤ wx.heap.size ∧ wx.heap[w.heap.size]? = some (.cells #[.int .i64 a0, .int .i64 a1, .int .u32 a2] 26 (0, 0)) ∧ wx.heap[w.heap.size + 1]? = some (.cells #[.int .i64 b0, .int .u32 b1] 24 (0, 0)) ∧ (w.heap.size ≤ g5 ∧ g5 < wx.heap.size) ∧ wx.heap[g5]? = some (.cells #[.int .i64 r00, .int .i64 r01] 28 (0, 0)))
  case first =>
    go_region_held3 (fun w' => w'.cell? ⟨w.heap.size, 0, none⟩ = some (.int .i64 a0) ∧ w'.cell? ⟨w.heap.size, 1, none⟩ = some (.int .i64 a1) ∧ w'.cell? ⟨w.heap.size, 2, none⟩ = some (.int .u32 a2) ∧ w'.cell? ⟨w.heap.size + 1, 0, none⟩ = some (.int .i64 b0) ∧ w'.cell? ⟨w.heap.size + 1, 1, none⟩ = some (.int .u32 b1)) (simp [*, go_sem]) (first | (go_at_call 8; refine Calls.mono (toFlag_any (a0) (a1) (a2) _) ?_; rintro e0 w1 ⟨rfl, hb⟩; obtain ⟨X1, m1, rfl⟩ := plsOf hb; clear hb) | (go_at_call 9; refine Calls.mono (toGraph_any (b0) (b1) _) ?_; rintro e0 w1 ⟨rfl, hb⟩; obtain ⟨X2, m2, rfl⟩ := plsOf hb; clear hb) | (go_at_call 7; refine Calls.mono (HS.out _  ) ?_; rintro e0 w1 ⟨rfl, hb⟩; obtain ⟨X3, m3, rfl⟩ := plsOf hb; clear hb))
    all_goals (go_wp2_with fail; go_meet; exact ⟨_, rfl, rfl, (by (try with_reducible refine bsz ?_); repeat (first | with_reducible exact Below.refl _ _ | ((with_reducible refine bpre ?_); (try simp only [Array.append_assoc]); repeat (first | with_reducible exact Pre.refl _ | with_reducible exact Pre.base _ _ | with_reducible refine Pre.cons _ ?_)) | with_reducible assumption | ((with_reducible refine bsetr ?_); rfl) | with_reducible refine Below.setCell ?_ (by simp <;> omega) _ | with_reducible refine bpl ?_ _ _ | with_reducible refine bal ?_ _ | with_reducible refine bdrew1 ?_ | with_reducible refine bdrew ?_ _)), (by simp <;> omega), (by repeat (first | with_reducible assumption | with_reducible refine pls_block _ _ ?_ | with_reducible apply blkset2 | with_reducible apply blkset1 | ((with_reducible refine blksetN ?_ ?_ _); (focus (simp <;> omega))) | with_reducible exact blknew _ _ | ((with_reducible refine blknew' _ _ _ ?_); (simp <;> omega)) | with_reducible refine blkal ?_ _)), (by repeat (first | with_reducible assumption | with_reducible refine pls_block _ _ ?_ | with_reducible apply blkset2 | with_reducible apply blkset1 | ((with_reducible refine blksetN ?_ ?_ _); (focus (simp <;> omega))) | with_reducible exact blknew _ _ | ((with_reducible refine blknew' _ _ _ ?_); (simp <;> omega)) | with_reducible refine blkal ?_ _)), (by simp <;> omega), (by repeat (first | with_reducible assumption | with_reducible refine pls_block _ _ ?_ | with_reducible apply blkset2 | with_reducible apply blkset1 | ((with_reducible refine blksetN ?_ ?_ _); (focus (simp <;> omega))) | with_reducible exact blknew _ _ | ((with_reducible refine blknew' _ _ _ ?_); (simp <;> omega)) | with_reducible refine blkal ?_ _))⟩)
  case rest =>
    obtain ⟨g5, rfl, rfl, hB, z4, k_p0, k_p1, h_g5, k_s5⟩ := hcut
    obtain ⟨w4, rfl⟩ : ∃ x, x = wc := ⟨_, rfl⟩
    have B4 := Lib.hid hB
    have K4_p0 := Lib.hid k_p0
    have K4_p1 := Lib.hid k_p1
    have K4_s5 := Lib.hid k_s5
    clear hB k_p0 k_p1 k_s5
    obtain ⟨c4_p00, c4_p01, c4_p02⟩ := blkc3 K4_p0.out
    have y4_p0 : w.heap.size < w4.heap.size := blklt K4_p0.out
    obtain ⟨c4_p10, c4_p11⟩ := blkc2 K4_p1.out
    have y4_p1 : w.heap.size + 1 < w4.heap.size := blklt K4_p1.out
    obtain ⟨c4_s50, c4_s51⟩ := blkc2 K4_s5.out
    have y4_s5 : g5 < w4.heap.size := blklt K4_s5.out
    obtain ⟨hl_g5, hu_g5⟩ := h_g5
    go_upto_region 2 with fail
    go_cut [7, 8] (fun s7 s8 wx => ∃ (g7 : Nat), s7 = .pointer (some ⟨g7, 0, none⟩) ∧ s8 = .int .i64 r10 ∧ Below w.heap.size w wx ∧ w4.heap.size + 0 ≤ wx.heap.size ∧ wx.heap[w.heap.size]? = some (.cells #[.int .i64 a0, .int .i64 a1, .int .u32 a2] 26 (0, 0)) ∧ wx.heap[w.heap.size + 1]? = some (.cells #[.int .i64 b0, .int .u32 b1] 24 (0, 0)) ∧ wx.heap[g5]? = some (.cells #[.int .i64 r00, .int .i64 r01] 28 (0, 0)) ∧ (w4.heap.size ≤ g7 ∧ g7 < wx.heap.size) ∧ wx.heap[g7]? = some (.cells #[.int .i64 r00, .int .i64 r01] 28 (0, 0)))
    case first =>
      go_region_held3 (fun w' => w'.cell? ⟨w.heap.size, 0, none⟩ = some (.int .i64 a0) ∧ w'.cell? ⟨w.heap.size, 1, none⟩ = some (.int .i64 a1) ∧ w'.cell? ⟨w.heap.size, 2, none⟩ = some (.int .u32 a2) ∧ w'.cell? ⟨w.heap.size + 1, 0, none⟩ = some (.int .i64 b0) ∧ w'.cell? ⟨w.heap.size + 1, 1, none⟩ = some (.int .u32 b1)) (simp [*, go_sem]) (first | (go_at_call 8; refine Calls.mono (toFlag_any (a0) (a1) (a2) _) ?_; rintro e0 w1 ⟨rfl, hb⟩; obtain ⟨X5, m5, rfl⟩ := plsOf hb; clear hb) | (go_at_call 9; refine Calls.mono (toGraph_any (b0) (b1) _) ?_; rintro e0 w1 ⟨rfl, hb⟩; obtain ⟨X6, m6, rfl⟩ := plsOf hb; clear hb) | (go_at_call 10; refine Calls.mono (HI.out _  ) ?_; rintro e0 w1 ⟨rfl, hb⟩; obtain ⟨X7, m7, rfl⟩ := plsOf hb; clear hb))
      all_goals (go_wp2_with fail; go_meet; exact ⟨_, rfl, rfl, (bthen B4.out (by (try with_reducible refine bsz ?_); repeat (first | with_reducible exact Below.refl _ _ | ((with_reducible refine bpre ?_); (try simp only [Array.append_assoc]); repeat (first | with_reducible exact Pre.refl _ | with_reducible exact Pre.base _ _ | with_reducible refine Pre.cons _ ?_)) | with_reducible assumption | ((with_reducible refine bsetr ?_); rfl) | with_reducible refine Below.setCell ?_ (by simp <;> omega) _ | with_reducible refine bpl ?_ _ _ | with_reducible refine bal ?_ _ | with_reducible refine bdrew1 ?_ | with_reducible refine bdrew ?_ _))), (by simp <;> omega), (by have kk := K4_p0.out; exact (by repeat (first | with_reducible assumption | with_reducible refine pls_block _ _ ?_ | with_reducible apply blkset2 | with_reducible apply blkset1 | ((with_reducible refine blksetN ?_ ?_ _); (focus (simp <;> omega))) | with_reducible exact blknew _ _ | ((with_reducible refine blknew' _ _ _ ?_); (simp <;> omega)) | with_reducible refine blkal ?_ _))), (by have kk := K4_p1.out; exact (by repeat (first | with_reducible assumption | with_reducible refine pls_block _ _ ?_ | with_reducible apply blkset2 | with_reducible apply blkset1 | ((with_reducible refine blksetN ?_ ?_ _); (focus (simp <;> omega))) | with_reducible exact blknew _ _ | ((with_reducible refine blknew' _ _ _ ?_); (simp <;> omega)) | with_reducible refine blkal ?_ _))), (by have kk := K4_s5.out; exact (by repeat (first | with_reducible assumption | with_reducible refine pls_block _ _ ?_ | with_reducible apply blkset2 | with_reducible apply blkset1 | ((with_reducible refine blksetN ?_ ?_ _); (focus (simp <;> omega))) | with_reducible exact blknew _ _ | ((with_reducible refine blknew' _ _ _ ?_); (simp <;> omega)) | with_reducible refine blkal ?_ _))), (by simp <;> omega), (by repeat (first | with_reducible assumption | with_reducible refine pls_block _ _ ?_ | with_reducible apply blkset2 | with_reducible apply blkset1 | ((with_reducible refine blksetN ?_ ?_ _); (focus (simp <;> omega))) | with_reducible exact blknew _ _ | ((with_reducible refine blknew' _ _ _ ?_); (simp <;> omega)) | with_reducible refine blkal ?_ _))⟩)
    case rest =>
      obtain ⟨g7, rfl, rfl, hB, z8, k_p0, k_p1, k_s5, h_g7, k_s7⟩ := hcut
      obtain ⟨w8, rfl⟩ : ∃ x, x = wc := ⟨_, rfl⟩
      have B8 := Lib.hid hB
      have K8_p0 := Lib.hid k_p0
      have K8_p1 := Lib.hid k_p1
      have K8_s5 := Lib.hid k_s5
      have K8_s7 := Lib.hid k_s7
      clear hB c4_p00 c4_p01 c4_p02 y4_p0 c4_p10 c4_p11 y4_p1 c4_s50 c4_s51 y4_s5 K4_p0 K4_p1 K4_s5 B4 k_p0 k_p1 k_s5 k_s7
      obtain ⟨c8_p00, c8_p01, c8_p02⟩ := blkc3 K8_p0.out
      have y8_p0 : w.heap.size < w8.heap.size := blklt K8_p0.out
      obtain ⟨c8_p10, c8_p11⟩ := blkc2 K8_p1.out
      have y8_p1 : w.heap.size + 1 < w8.heap.size := blklt K8_p1.out
      obtain ⟨c8_s50, c8_s51⟩ := blkc2 K8_s5.out
      have y8_s5 : g5 < w8.heap.size := blklt K8_s5.out
      obtain ⟨c8_s70, c8_s71⟩ := blkc2 K8_s7.out
      have y8_s7 : g7 < w8.heap.size := blklt K8_s7.out
      obtain ⟨hl_g7, hu_g7⟩ := h_g7
      go_wp2_with fail
      refine Calls.mono (eqFraction_same _ _ _) ?_
      rintro e0 w9 ⟨rfl, hb⟩
      have z9 : w8.heap.size + 0 ≤ w9.heap.size := (by have := hb.size; (try simp at this); omega)
      have K9_p0 : Hid (w9.heap[w.heap.size]? = some (.cells #[.int .i64 a0, .int .i64 a1, .int .u32 a2] 26 (0, 0))) := Lib.hid ((hb.block _ (by first | omega | (simp <;> omega))).trans (by repeat (first | exact K8_p0.out | exact blknew _ _ | exact blknew' _ _ _ (by simp) | with_reducible refine blkal ?_ _ | with_reducible refine blkdrew ?_)))
      have K9_p1 : Hid (w9.heap[w.heap.size + 1]? = some (.cells #[.int .i64 b0, .int .u32 b1] 24 (0, 0))) := Lib.hid ((hb.block _ (by first | omega | (simp <;> omega))).trans (by repeat (first | exact K8_p1.out | exact blknew _ _ | exact blknew' _ _ _ (by simp) | with_reducible refine blkal ?_ _ | with_reducible refine blkdrew ?_)))
      have K9_s5 : Hid (w9.heap[g5]? = some (.cells #[.int .i64 r00, .int .i64 r01] 28 (0, 0))) := Lib.hid ((hb.block _ (by first | omega | (simp <;> omega))).trans (by repeat (first | exact K8_s5.out | exact blknew _ _ | exact blknew' _ _ _ (by simp) | with_reducible refine blkal ?_ _ | with_reducible refine blkdrew ?_)))
      have K9_s7 : Hid (w9.heap[g7]? = some (.cells #[.int .i64 r00, .int .i64 r01] 28 (0, 0))) := Lib.hid ((hb.block _ (by first | omega | (simp <;> omega))).trans (by repeat (first | exact K8_s7.out | exact blknew _ _ | exact blknew' _ _ _ (by simp) | with_reducible refine blkal ?_ _ | with_reducible refine blkdrew ?_)))
      have B9 : Hid (Below w.heap.size w w9) := Lib.hid (bthen (by repeat (first | with_reducible exact B8.out | with_reducible refine bal ?_ _ | with_reducible refine bdrew1 ?_)) hb)
      clear K8_p0 K8_p1 K8_s5 K8_s7 B8 hb c8_p00 c8_p01 c8_p02 y8_p0 c8_p10 c8_p11 y8_p1 c8_s50 c8_s51 y8_s5 c8_s70 c8_s71 y8_s7
      obtain ⟨c9_p00, c9_p01, c9_p02⟩ := blkc3 K9_p0.out
      have y9_p0 : w.heap.size < w9.heap.size := blklt K9_p0.out
      obtain ⟨c9_p10, c9_p11⟩ := blkc2 K9_p1.out
      have y9_p1 : w.heap.size + 1 < w9.heap.size := blklt K9_p1.out
      obtain ⟨c9_s50, c9_s51⟩ := blkc2 K9_s5.out
      have y9_s5 : g5 < w9.heap.size := blklt K9_s5.out
      obtain ⟨c9_s70, c9_s71⟩ := blkc2 K9_s7.out
      have y9_s7 : g7 < w9.heap.size := blklt K9_s7.out
      go_wp2_with fail
      exact bodyPost_ret (v := .bool true) (by simp [results, Try.results3, go_sem]) rfl ⟨rfl, (by first | exact B9.out | exact bal B9.out _ | exact bal (bal B9.out _) _)⟩
end Go.Proofs.Ytkfjlimlodbcgaa

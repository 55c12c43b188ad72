import Derived.Deep.DeepCutAuto
import Derived.Deep.RegionHeld3
import Derived.Test.YtekchdgpaemofaaGreatYySl
import Derived.Test.YtekchdgpaemofaaGreatYyTSum
import Derived.Test.YtekchdgpaemofaaGreatYyTb
namespace Go.Proofs.YtekchdgpaemofaaGreat
open Go.ChangeShapes Go.WideShapes Go.ChangeAt Go.RowKit
set_option linter.unusedVariables false
set_option linter.unusedSimpArgs false
attribute [local irreducible] Calls
set_option maxHeartbeats 4000000 in
set_option maxRecDepth 100000 in
theorem walkBlockValue (ax0 : List (Int × (Int × Int))) (av0 : Value) (ax1 : List (List (Int × Int))) (av1 : Value) (b0 : Int) (b1 : Int) (r00 : Int) (r01 : Int) (r10 : Int) (HI0 : ∀ (W : World) (u0 u1 : Value), Lst shFlag W ax0 u0 → Lst (shL shFr) W ax1 u1 → ax0.length ≤ 1048576 → ax1.length + lenSS ax1 ≤ 1048576 → Calls Tryz.prog 30 #[.agg #[u0, u1], .agg #[.int .i64 b0, .int .u32 b1]] W fun e W' => e = .returned (.tuple #[.agg #[.int .i64 r00, .int .i64 r01], .int .i64 r10]) ∧ Below W.heap.size W W') (HS0 : ∀ (W : World) (u0 u1 : Value), Lst shFlag W ax0 u0 → Lst (shL shFr) W ax1 u1 → ax0.length ≤ 1048576 → ax1.length + lenSS ax1 ≤ 1048576 → Calls Tryz.prog 28 #[.agg #[u0, u1], .agg #[.int .i64 b0, .int .u32 b1]] W fun e W' => e = .returned (.tuple #[.agg #[.int .i64 r00, .int .i64 r01], .int .i64 r10]) ∧ Below W.heap.size W W') (w : World) (ah0 : Lst shFlag w ax0 av0) (ah1 : Lst (shL shFr) w ax1 av1) :
    Calls Tryz.prog 5 #[.agg #[av0, av1], .agg #[.int .i64 b0, .int .u32 b1]] w fun e0 w' => e0 = .returned (.bool true) ∧ Below w.heap.size w w' := by
  obtain ⟨A_av0, cap_av0, rfl, fax0⟩ := formFlag ah0
  obtain ⟨A_av1, cap_av1, rfl, fax1⟩ := formFrSS ah1
  have HI := Lib.hid HI0
  have HS := Lib.hid HS0
  clear HI0 HS0
  have qr00 : (r00 != r00) = false := by simp
  have qr01 : (r01 != r01) = false := by simp
  have qr10 : (r10 != r10) = false := by simp
  have d0 := szBl_bd (b := (ax0, ax1)) (l := 1048576) (by omega)
  by_cases g0 : szBl (1048576) (ax0, ax1) < 0
  · go_enter Tryz.func5, Tryz.ntmps5
    go_wp2_with fail
    refine Calls.mono (szBlock_any _ (ax0, ax1) _ _ _ (ah0.below belA) (ah1.below belA) (by omega) (by omega)) ?_
    rintro e0 w1 ⟨rfl, hb⟩
    have z1 : w.heap.size + 2 ≤ w1.heap.size := (by have := hb.size; (try simp at this); omega)
    have K1_p0 : Hid (w1.heap[w.heap.size]? = some (.cells #[.slice A_av0 ax0.length cap_av0, .slice A_av1 ax1.length cap_av1] 51 (0, 0))) := Lib.hid ((hb.block _ (by first | omega | (simp <;> omega))).trans (by repeat (first | exact blknew _ _ | exact blknew' _ _ _ (by simp) | with_reducible refine blkal ?_ _ | with_reducible refine blkdrew ?_)))
    have K1_p1 : Hid (w1.heap[w.heap.size + 1]? = some (.cells #[.int .i64 b0, .int .u32 b1] 45 (0, 0))) := Lib.hid ((hb.block _ (by first | omega | (simp <;> omega))).trans (by repeat (first | exact blknew _ _ | exact blknew' _ _ _ (by simp) | with_reducible refine blkal ?_ _ | with_reducible refine blkdrew ?_)))
    have B1 : Hid (Below w.heap.size w w1) := Lib.hid (bthen belA hb)
    clear hb
    obtain ⟨c1_p00, c1_p01⟩ := blkc2 K1_p0.out
    have y1_p0 : w.heap.size < w1.heap.size := blklt K1_p0.out
    obtain ⟨c1_p10, c1_p11⟩ := blkc2 K1_p1.out
    have y1_p1 : w.heap.size + 1 < w1.heap.size := blklt K1_p1.out
    go_wp2_with fail
    exact bodyPost_ret (v := .bool true) (by simp [results, Tryz.results5, go_sem]) rfl ⟨rfl, (by first | exact B1.out | exact bal B1.out _ | exact bal (bal B1.out _) _)⟩
  · obtain ⟨lax0, lax1⟩ : ax0.length ≤ 1048576 ∧ ax1.length + lenSS ax1 ≤ 1048576 := (by have := d0.2.2 g0; simp only at this; omega)
    go_enter Tryz.func5, Tryz.ntmps5
    go_wp2_with fail
    refine Calls.mono (szBlock_any _ (ax0, ax1) _ _ _ (ah0.below belA) (ah1.below belA) (by omega) (by omega)) ?_
    rintro e0 w1 ⟨rfl, hb⟩
    have z1 : w.heap.size + 2 ≤ w1.heap.size := (by have := hb.size; (try simp at this); omega)
    have K1_p0 : Hid (w1.heap[w.heap.size]? = some (.cells #[.slice A_av0 ax0.length cap_av0, .slice A_av1 ax1.length cap_av1] 51 (0, 0))) := Lib.hid ((hb.block _ (by first | omega | (simp <;> omega))).trans (by repeat (first | exact blknew _ _ | exact blknew' _ _ _ (by simp) | with_reducible refine blkal ?_ _ | with_reducible refine blkdrew ?_)))
    have K1_p1 : Hid (w1.heap[w.heap.size + 1]? = some (.cells #[.int .i64 b0, .int .u32 b1] 45 (0, 0))) := Lib.hid ((hb.block _ (by first | omega | (simp <;> omega))).trans (by repeat (first | exact blknew _ _ | exact blknew' _ _ _ (by simp) | with_reducible refine blkal ?_ _ | with_reducible refine blkdrew ?_)))
    have B1 : Hid (Below w.heap.size w w1) := Lib.hid (bthen belA hb)
    clear hb
    obtain ⟨c1_p00, c1_p01⟩ := blkc2 K1_p0.out
    have y1_p0 : w.heap.size < w1.heap.size := blklt K1_p0.out
    obtain ⟨c1_p10, c1_p11⟩ := blkc2 K1_p1.out
    have y1_p1 : w.heap.size + 1 < w1.heap.size := blklt K1_p1.out
    go_upto_region 5 with fail
    go_cut [6, 7] (fun s6 s7 wx => ∃ (g6 : Nat), s6 = .pointer (some ⟨g6, 0, none⟩) ∧ s7 = .int .i64 r10 ∧ Below w.heap.size w wx ∧ w1.heap.size + 0 ≤ wx.heap.size ∧ wx.heap[w.heap.size]? = some (.cells #[.slice A_av0 ax0.length cap_av0, .slice A_av1 ax1.length cap_av1] 51 (0, 0)) ∧ wx.heap[w.heap.size + 1]? = some (.cells #[.int .i64 b0, .int .u32 b1] 45 (0, 0)) ∧ (w1.heap.size ≤ g6 ∧ g6 < wx.heap.size) ∧ wx.heap[g6]? = some (.cells #[.int .i64 r00, .int .i64 r01] 54 (0, 0)))
    case first =>
      go_region_held3 (fun w' => w'.cell? ⟨w.heap.size, 0, none⟩ = some (.slice A_av0 ax0.length cap_av0) ∧ w'.cell? ⟨w.heap.size, 1, none⟩ = some (.slice A_av1 ax1.length cap_av1) ∧ w'.cell? ⟨w.heap.size + 1, 0, none⟩ = some (.int .i64 b0) ∧ w'.cell? ⟨w.heap.size + 1, 1, none⟩ = some (.int .u32 b1)) (simp [*, go_sem]) (first | (go_at_call 29; refine Calls.mono (toBlock_two _ ax0 ax1 _ _ (ah0.below (bthen B1.out belA)) (ah1.below (bthen B1.out belA)) (by omega) (by omega)) ?_; rintro e0 w1 ⟨A2_0, cap2_0, F2_0, A2_1, cap2_1, F2_1, rfl, hO2_0, hO2_1, hD, hb⟩; obtain ⟨X2, m2, rfl⟩ := plsOf hb; clear hb; (try simp only [pls_pls, drew_pls, drewN_pls, pls_drew, pls_drewN] at hO2_0); have hO2_0 := Lib.hid hO2_0; (try simp only [pls_pls, drew_pls, drewN_pls, pls_drew, pls_drewN] at hO2_1); have hO2_1 := Lib.hid hO2_1) | (go_at_call 24; refine Calls.mono (toGraph_any (b0) (b1) _) ?_; rintro e0 w1 ⟨rfl, hb⟩; obtain ⟨X3, m3, rfl⟩ := plsOf hb; clear hb) | (go_at_call 28; refine Calls.mono (HS.out _ _ _ (hO2_0.out.lst.below belA) (hO2_1.out.lst.below belA) (by omega) (by omega)) ?_; rintro e0 w1 ⟨rfl, hb⟩; obtain ⟨X4, m4, rfl⟩ := plsOf hb; clear hb))
      all_goals (go_wp2_with fail; go_meet; exact ⟨_, rfl, rfl, (bthen B1.out belA), (by simp <;> omega), (by have kk := K1_p0.out; exact blkA), (by have kk := K1_p1.out; exact blkA), (by simp <;> omega), blkA⟩)
    case rest =>
      obtain ⟨g6, rfl, rfl, hB, z5, k_p0, k_p1, h_g6, k_s6⟩ := hcut
      obtain ⟨w5, rfl⟩ : ∃ x, x = wc := ⟨_, rfl⟩
      have B5 := Lib.hid hB
      have K5_p0 := Lib.hid k_p0
      have K5_p1 := Lib.hid k_p1
      have K5_s6 := Lib.hid k_s6
      clear hB c1_p00 c1_p01 y1_p0 c1_p10 c1_p11 y1_p1 K1_p0 K1_p1 B1 k_p0 k_p1 k_s6
      obtain ⟨c5_p00, c5_p01⟩ := blkc2 K5_p0.out
      have y5_p0 : w.heap.size < w5.heap.size := blklt K5_p0.out
      obtain ⟨c5_p10, c5_p11⟩ := blkc2 K5_p1.out
      have y5_p1 : w.heap.size + 1 < w5.heap.size := blklt K5_p1.out
      obtain ⟨c5_s60, c5_s61⟩ := blkc2 K5_s6.out
      have y5_s6 : g6 < w5.heap.size := blklt K5_s6.out
      obtain ⟨hl_g6, hu_g6⟩ := h_g6
      go_wp2_with fail
      refine Calls.mono (toBlock_two _ ax0 ax1 _ _ (ah0.below (by repeat (first | with_reducible exact B5.out | with_reducible refine bal ?_ _ | with_reducible refine bdrew1 ?_))) (ah1.below (by repeat (first | with_reducible exact B5.out | with_reducible refine bal ?_ _ | with_reducible refine bdrew1 ?_))) (by omega) (by omega)) ?_
      rintro e0 w6 ⟨A6_0, cap6_0, F6_0, A6_1, cap6_1, F6_1, rfl, hO_0, hO_1, hD, hb⟩
      have D6 := Lib.hid hD
      clear hD
      have z6 : w5.heap.size + 0 ≤ w6.heap.size := (by have := hb.size; (try simp at this); omega)
      have K6_p0 : Hid (w6.heap[w.heap.size]? = some (.cells #[.slice A_av0 ax0.length cap_av0, .slice A_av1 ax1.length cap_av1] 51 (0, 0))) := Lib.hid ((hb.block _ (by first | omega | (simp <;> omega))).trans (by repeat (first | with_reducible exact K5_p0.out | with_reducible exact blkal K5_p0.out _ | with_reducible exact blkal (blkal K5_p0.out _) _ | exact K5_p0.out | exact blknew _ _ | exact blknew' _ _ _ (by simp) | with_reducible refine blkal ?_ _ | with_reducible refine blkdrew ?_)))
      have K6_p1 : Hid (w6.heap[w.heap.size + 1]? = some (.cells #[.int .i64 b0, .int .u32 b1] 45 (0, 0))) := Lib.hid ((hb.block _ (by first | omega | (simp <;> omega))).trans (by repeat (first | with_reducible exact K5_p1.out | with_reducible exact blkal K5_p1.out _ | with_reducible exact blkal (blkal K5_p1.out _) _ | exact K5_p1.out | exact blknew _ _ | exact blknew' _ _ _ (by simp) | with_reducible refine blkal ?_ _ | with_reducible refine blkdrew ?_)))
      have K6_s6 : Hid (w6.heap[g6]? = some (.cells #[.int .i64 r00, .int .i64 r01] 54 (0, 0))) := Lib.hid ((hb.block _ (by first | omega | (simp <;> omega))).trans (by repeat (first | with_reducible exact K5_s6.out | with_reducible exact blkal K5_s6.out _ | with_reducible exact blkal (blkal K5_s6.out _) _ | exact K5_s6.out | exact blknew _ _ | exact blknew' _ _ _ (by simp) | with_reducible refine blkal ?_ _ | with_reducible refine blkdrew ?_)))
      have B6 : Hid (Below w.heap.size w w6) := Lib.hid (bthen (by repeat (first | with_reducible exact B5.out | with_reducible refine bal ?_ _ | with_reducible refine bdrew1 ?_)) hb)
      have L6_6_0 : Hid (∀ b ∈ F6_0, w5.heap.size + 0 ≤ b ∧ b < w6.heap.size) := Lib.hid (fun b hm => ⟨by have := hO_0.ge b hm; (try simp at this); omega, hO_0.lt b hm⟩)
      have O6_6_0 := Lib.hid hO_0
      have L6_6_1 : Hid (∀ b ∈ F6_1, w5.heap.size + 0 ≤ b ∧ b < w6.heap.size) := Lib.hid (fun b hm => ⟨by have := hO_1.ge b hm; (try simp at this); omega, hO_1.lt b hm⟩)
      have O6_6_1 := Lib.hid hO_1
      clear K5_p0 K5_p1 K5_s6 hO_0 hO_1 B5 hb c5_p00 c5_p01 y5_p0 c5_p10 c5_p11 y5_p1 c5_s60 c5_s61 y5_s6
      obtain ⟨c6_p00, c6_p01⟩ := blkc2 K6_p0.out
      have y6_p0 : w.heap.size < w6.heap.size := blklt K6_p0.out
      obtain ⟨c6_p10, c6_p11⟩ := blkc2 K6_p1.out
      have y6_p1 : w.heap.size + 1 < w6.heap.size := blklt K6_p1.out
      obtain ⟨c6_s60, c6_s61⟩ := blkc2 K6_s6.out
      have y6_s6 : g6 < w6.heap.size := blklt K6_s6.out
      go_upto_region 7 with fail
      go_cut [9, 10] (fun s9 s10 wx => ∃ (g9 : Nat), s9 = .pointer (some ⟨g9, 0, none⟩) ∧ s10 = .int .i64 r10 ∧ Below w.heap.size w wx ∧ w6.heap.size + 1 ≤ wx.heap.size ∧ wx.heap[w.heap.size]? = some (.cells #[.slice A_av0 ax0.length cap_av0, .slice A_av1 ax1.length cap_av1] 51 (0, 0)) ∧ wx.heap[w.heap.size + 1]? = some (.cells #[.int .i64 b0, .int .u32 b1] 45 (0, 0)) ∧ wx.heap[g6]? = some (.cells #[.int .i64 r00, .int .i64 r01] 54 (0, 0)) ∧ wx.heap[w6.heap.size]? = some (.cells #[.slice A6_0 ax0.length cap6_0, .slice A6_1 ax1.length cap6_1] 58 (0, 0)) ∧ (w6.heap.size ≤ g9 ∧ g9 < wx.heap.size) ∧ wx.heap[g9]? = some (.cells #[.int .i64 r00, .int .i64 r01] 54 (0, 0)) ∧ Hid (Own shFlag _ wx ax0 (.slice A6_0 ax0.length cap6_0) F6_0) ∧ Hid (Own (shL shFr) _ wx ax1 (.slice A6_1 ax1.length cap6_1) F6_1))
      case first =>
        go_region_held3 (fun w' => w'.cell? ⟨w.heap.size + 1, 0, none⟩ = some (.int .i64 b0) ∧ w'.cell? ⟨w.heap.size + 1, 1, none⟩ = some (.int .u32 b1) ∧ w'.cell? ⟨w6.heap.size, 0, none⟩ = some (.slice A6_0 ax0.length cap6_0) ∧ w'.cell? ⟨w6.heap.size, 1, none⟩ = some (.slice A6_1 ax1.length cap6_1)) (simp [*, go_sem]) (first | (go_at_call 24; refine Calls.mono (toGraph_any (b0) (b1) _) ?_; rintro e0 w1 ⟨rfl, hb⟩; obtain ⟨X7, m7, rfl⟩ := plsOf hb; clear hb) | (go_at_call 30; refine Calls.mono (HI.out _ _ _ (O6_6_0.out.lst.below belA) (O6_6_1.out.lst.below belA) (by omega) (by omega)) ?_; rintro e0 w1 ⟨rfl, hb⟩; obtain ⟨X8, m8, rfl⟩ := plsOf hb; clear hb))
        all_goals (go_wp2_with fail; go_meet; exact ⟨_, rfl, rfl, (bthen B6.out belA), (by simp <;> omega), (by have kk := K6_p0.out; exact blkA), (by have kk := K6_p1.out; exact blkA), (by have kk := K6_s6.out; exact blkA), blkA, (by simp <;> omega), blkA, (Lib.hid (O6_6_0.out.below (Nat.le_refl _) belA)), (Lib.hid (O6_6_1.out.below (Nat.le_refl _) belA))⟩)
      case rest =>
        obtain ⟨g9, rfl, rfl, hB, z9, k_p0, k_p1, k_s6, k_s8, h_g9, k_s9, o_6_0, o_6_1⟩ := hcut
        obtain ⟨w9, rfl⟩ : ∃ x, x = wc := ⟨_, rfl⟩
        have B9 := Lib.hid hB
        have K9_p0 := Lib.hid k_p0
        have K9_p1 := Lib.hid k_p1
        have K9_s6 := Lib.hid k_s6
        have K9_s8 := Lib.hid k_s8
        have K9_s9 := Lib.hid k_s9
        clear hB c6_p00 c6_p01 y6_p0 c6_p10 c6_p11 y6_p1 c6_s60 c6_s61 y6_s6 K6_p0 K6_p1 K6_s6 O6_6_0 O6_6_1 B6 k_p0 k_p1 k_s6 k_s8 k_s9
        obtain ⟨c9_p00, c9_p01⟩ := blkc2 K9_p0.out
        have y9_p0 : w.heap.size < w9.heap.size := blklt K9_p0.out
        obtain ⟨c9_p10, c9_p11⟩ := blkc2 K9_p1.out
        have y9_p1 : w.heap.size + 1 < w9.heap.size := blklt K9_p1.out
        obtain ⟨c9_s60, c9_s61⟩ := blkc2 K9_s6.out
        have y9_s6 : g6 < w9.heap.size := blklt K9_s6.out
        obtain ⟨c9_s80, c9_s81⟩ := blkc2 K9_s8.out
        have y9_s8 : w6.heap.size < w9.heap.size := blklt K9_s8.out
        obtain ⟨c9_s90, c9_s91⟩ := blkc2 K9_s9.out
        have y9_s9 : g9 < w9.heap.size := blklt K9_s9.out
        obtain ⟨hl_g9, hu_g9⟩ := h_g9
        have O9_6_0 := o_6_0
        clear o_6_0
        have O9_6_1 := o_6_1
        clear o_6_1
        go_wp2_with fail
        refine Calls.mono (eqFraction_same _ _ _) ?_
        rintro e0 w10 ⟨rfl, hb⟩
        have z10 : w9.heap.size + 0 ≤ w10.heap.size := (by have := hb.size; (try simp at this); omega)
        have K10_p0 : Hid (w10.heap[w.heap.size]? = some (.cells #[.slice A_av0 ax0.length cap_av0, .slice A_av1 ax1.length cap_av1] 51 (0, 0))) := Lib.hid ((hb.block _ (by first | omega | (simp <;> omega))).trans (by repeat (first | with_reducible exact K9_p0.out | with_reducible exact blkal K9_p0.out _ | with_reducible exact blkal (blkal K9_p0.out _) _ | exact K9_p0.out | exact blknew _ _ | exact blknew' _ _ _ (by simp) | with_reducible refine blkal ?_ _ | with_reducible refine blkdrew ?_)))
        have K10_p1 : Hid (w10.heap[w.heap.size + 1]? = some (.cells #[.int .i64 b0, .int .u32 b1] 45 (0, 0))) := Lib.hid ((hb.block _ (by first | omega | (simp <;> omega))).trans (by repeat (first | with_reducible exact K9_p1.out | with_reducible exact blkal K9_p1.out _ | with_reducible exact blkal (blkal K9_p1.out _) _ | exact K9_p1.out | exact blknew _ _ | exact blknew' _ _ _ (by simp) | with_reducible refine blkal ?_ _ | with_reducible refine blkdrew ?_)))
        have K10_s6 : Hid (w10.heap[g6]? = some (.cells #[.int .i64 r00, .int .i64 r01] 54 (0, 0))) := Lib.hid ((hb.block _ (by first | omega | (simp <;> omega))).trans (by repeat (first | with_reducible exact K9_s6.out | with_reducible exact blkal K9_s6.out _ | with_reducible exact blkal (blkal K9_s6.out _) _ | exact K9_s6.out | exact blknew _ _ | exact blknew' _ _ _ (by simp) | with_reducible refine blkal ?_ _ | with_reducible refine blkdrew ?_)))
        have K10_s8 : Hid (w10.heap[w6.heap.size]? = some (.cells #[.slice A6_0 ax0.length cap6_0, .slice A6_1 ax1.length cap6_1] 58 (0, 0))) := Lib.hid ((hb.block _ (by first | omega | (simp <;> omega))).trans (by repeat (first | with_reducible exact K9_s8.out | with_reducible exact blkal K9_s8.out _ | with_reducible exact blkal (blkal K9_s8.out _) _ | exact K9_s8.out | exact blknew _ _ | exact blknew' _ _ _ (by simp) | with_reducible refine blkal ?_ _ | with_reducible refine blkdrew ?_)))
        have K10_s9 : Hid (w10.heap[g9]? = some (.cells #[.int .i64 r00, .int .i64 r01] 54 (0, 0))) := Lib.hid ((hb.block _ (by first | omega | (simp <;> omega))).trans (by repeat (first | with_reducible exact K9_s9.out | with_reducible exact blkal K9_s9.out _ | with_reducible exact blkal (blkal K9_s9.out _) _ | exact K9_s9.out | exact blknew _ _ | exact blknew' _ _ _ (by simp) | with_reducible refine blkal ?_ _ | with_reducible refine blkdrew ?_)))
        have O10_6_0 := Lib.hid (O9_6_0.out.below (Nat.le_refl _) (bthen (by repeat (first | with_reducible exact Below.refl _ _ | with_reducible refine bal ?_ _ | with_reducible refine bdrew1 ?_)) hb))
        have O10_6_1 := Lib.hid (O9_6_1.out.below (Nat.le_refl _) (bthen (by repeat (first | with_reducible exact Below.refl _ _ | with_reducible refine bal ?_ _ | with_reducible refine bdrew1 ?_)) hb))
        have B10 : Hid (Below w.heap.size w w10) := Lib.hid (bthen (by repeat (first | with_reducible exact B9.out | with_reducible refine bal ?_ _ | with_reducible refine bdrew1 ?_)) hb)
        clear O9_6_0 O9_6_1 K9_p0 K9_p1 K9_s6 K9_s8 K9_s9 B9 hb c9_p00 c9_p01 y9_p0 c9_p10 c9_p11 y9_p1 c9_s60 c9_s61 y9_s6 c9_s80 c9_s81 y9_s8 c9_s90 c9_s91 y9_s9
        obtain ⟨c10_p00, c10_p01⟩ := blkc2 K10_p0.out
        have y10_p0 : w.heap.size < w10.heap.size := blklt K10_p0.out
        obtain ⟨c10_p10, c10_p11⟩ := blkc2 K10_p1.out
        have y10_p1 : w.heap.size + 1 < w10.heap.size := blklt K10_p1.out
        obtain ⟨c10_s60, c10_s61⟩ := blkc2 K10_s6.out
        have y10_s6 : g6 < w10.heap.size := blklt K10_s6.out
        obtain ⟨c10_s80, c10_s81⟩ := blkc2 K10_s8.out
        have y10_s8 : w6.heap.size < w10.heap.size := blklt K10_s8.out
        obtain ⟨c10_s90, c10_s91⟩ := blkc2 K10_s9.out
        have y10_s9 : g9 < w10.heap.size := blklt K10_s9.out
        go_wp2_with fail
        (refine wp_region_held_drew (S := (fun w' => w'.cell? ⟨w.heap.size, 0, none⟩ = some (.slice A_av0 ax0.length cap_av0) ∧ w'.cell? ⟨w.heap.size, 1, none⟩ = some (.slice A_av1 ax1.length cap_av1) ∧ w'.cell? ⟨w6.heap.size, 0, none⟩ = some (.slice A6_0 ax0.length cap6_0) ∧ w'.cell? ⟨w6.heap.size, 1, none⟩ = some (.slice A6_1 ax1.length cap6_1))) (by kernel_rfl) ?_ (fun hHeld => ?_); (focus (simp [*, go_sem])); refine rt 0 (some 42) (v := ?_) rfl rfl ?_ ?_; rotate_left; (focus (intro w' hSw; (try dsimp only at hSw); go_simp; (try with_reducible rfl))); (try simp only [Act.put, nA, nB, nC]); refine rt 1 (some 43) (v := ?_) rfl rfl ?_ ?_; rotate_left; (focus (intro w' hSw; (try dsimp only at hSw); go_simp; (try with_reducible rfl))); (try simp only [Act.put, nA, nB, nC]); refine wpAnyH_ready (rs := [2]) (by kernel_rfl) (by simp) ?_; refine AllReadyH.cons rfl (fun K hK => ?_) AllReadyH.nil; go_simp; (go_at_call 29; refine Calls.mono (toBlock_two _ ax0 ax1 _ _ (ah0.below (by repeat (first | with_reducible exact B10.out | with_reducible refine bal ?_ _ | with_reducible refine bdrew1 ?_))) (ah1.below (by repeat (first | with_reducible exact B10.out | with_reducible refine bal ?_ _ | with_reducible refine bdrew1 ?_))) (by omega) (by omega)) ?_; rintro e0 w11 ⟨A11_0, cap11_0, F11_0, A11_1, cap11_1, F11_1, rfl, hO_0, hO_1, hD, hb⟩; have D11 := Lib.hid hD; clear hD; have z11 : w10.heap.size + 0 ≤ w11.heap.size := (by have := hb.size; (try simp at this); omega); have K11_p0 : Hid (w11.heap[w.heap.size]? = some (.cells #[.slice A_av0 ax0.length cap_av0, .slice A_av1 ax1.length cap_av1] 51 (0, 0))) := Lib.hid ((hb.block _ (by first | omega | (simp <;> omega))).trans (by repeat (first | with_reducible exact K10_p0.out | with_reducible exact blkal K10_p0.out _ | with_reducible exact blkal (blkal K10_p0.out _) _ | exact K10_p0.out | exact blknew _ _ | exact blknew' _ _ _ (by simp) | with_reducible refine blkal ?_ _ | with_reducible refine blkdrew ?_))); have K11_p1 : Hid (w11.heap[w.heap.size + 1]? = some (.cells #[.int .i64 b0, .int .u32 b1] 45 (0, 0))) := Lib.hid ((hb.block _ (by first | omega | (simp <;> omega))).trans (by repeat (first | with_reducible exact K10_p1.out | with_reducible exact blkal K10_p1.out _ | with_reducible exact blkal (blkal K10_p1.out _) _ | exact K10_p1.out | exact blknew _ _ | exact blknew' _ _ _ (by simp) | with_reducible refine blkal ?_ _ | with_reducible refine blkdrew ?_))); have K11_s6 : Hid (w11.heap[g6]? = some (.cells #[.int .i64 r00, .int .i64 r01] 54 (0, 0))) := Lib.hid ((hb.block _ (by first | omega | (simp <;> omega))).trans (by repeat (first | with_reducible exact K10_s6.out | with_reducible exact blkal K10_s6.out _ | with_reducible exact blkal (blkal K10_s6.out _) _ | exact K10_s6.out | exact blknew _ _ | exact blknew' _ _ _ (by simp) | with_reducible refine blkal ?_ _ | with_reducible refine blkdrew ?_))); have K11_s8 : Hid (w11.heap[w6.heap.size]? = some (.cells #[.slice A6_0 ax0.length cap6_0, .slice A6_1 ax1.length cap6_1] 58 (0, 0))) := Lib.hid ((hb.block _ (by first | omega | (simp <;> omega))).trans (by repeat (first | with_reducible exact K10_s8.out | with_reducible exact blkal K10_s8.out _ | with_reducible exact blkal (blkal K10_s8.out _) _ | exact K10_s8.out | exact blknew _ _ | exact blknew' _ _ _ (by simp) | with_reducible refine blkal ?_ _ | with_reducible refine blkdrew ?_))); have K11_s9 : Hid (w11.heap[g9]? = some (.cells #[.int .i64 r00, .int .i64 r01] 54 (0, 0))) := Lib.hid ((hb.block _ (by first | omega | (simp <;> omega))).trans (by repeat (first | with_reducible exact K10_s9.out | with_reducible exact blkal K10_s9.out _ | with_reducible exact blkal (blkal K10_s9.out _) _ | exact K10_s9.out | exact blknew _ _ | exact blknew' _ _ _ (by simp) | with_reducible refine blkal ?_ _ | with_reducible refine blkdrew ?_))); have O11_6_0 := Lib.hid (O10_6_0.out.below (Nat.le_refl _) (bthen (by repeat (first | with_reducible exact Below.refl _ _ | with_reducible refine bal ?_ _ | with_reducible refine bdrew1 ?_)) hb)); have O11_6_1 := Lib.hid (O10_6_1.out.below (Nat.le_refl _) (bthen (by repeat (first | with_reducible exact Below.refl _ _ | with_reducible refine bal ?_ _ | with_reducible refine bdrew1 ?_)) hb)); have B11 : Hid (Below w.heap.size w w11) := Lib.hid (bthen (by repeat (first | with_reducible exact B10.out | with_reducible refine bal ?_ _ | with_reducible refine bdrew1 ?_)) hb); have L11_11_0 : Hid (∀ b ∈ F11_0, w10.heap.size + 0 ≤ b ∧ b < w11.heap.size) := Lib.hid (fun b hm => ⟨by have := hO_0.ge b hm; (try simp at this); omega, hO_0.lt b hm⟩); have O11_11_0 := Lib.hid hO_0; have L11_11_1 : Hid (∀ b ∈ F11_1, w10.heap.size + 0 ≤ b ∧ b < w11.heap.size) := Lib.hid (fun b hm => ⟨by have := hO_1.ge b hm; (try simp at this); omega, hO_1.lt b hm⟩); have O11_11_1 := Lib.hid hO_1; clear O10_6_0 O10_6_1 K10_p0 K10_p1 K10_s6 K10_s8 K10_s9 hO_0 hO_1 B10 hb c10_p00 c10_p01 y10_p0 c10_p10 c10_p11 y10_p1 c10_s60 c10_s61 y10_s6 c10_s80 c10_s81 y10_s8 c10_s90 c10_s91 y10_s9; obtain ⟨c11_p00, c11_p01⟩ := blkc2 K11_p0.out; have y11_p0 : w.heap.size < w11.heap.size := blklt K11_p0.out; obtain ⟨c11_p10, c11_p11⟩ := blkc2 K11_p1.out; have y11_p1 : w.heap.size + 1 < w11.heap.size := blklt K11_p1.out; obtain ⟨c11_s60, c11_s61⟩ := blkc2 K11_s6.out; have y11_s6 : g6 < w11.heap.size := blklt K11_s6.out; obtain ⟨c11_s80, c11_s81⟩ := blkc2 K11_s8.out; have y11_s8 : w6.heap.size < w11.heap.size := blklt K11_s8.out; obtain ⟨c11_s90, c11_s91⟩ := blkc2 K11_s9.out; have y11_s9 : g9 < w11.heap.size := blklt K11_s9.out); go_wp2_with fail; refine hK.out _ _ ?_ (fun hHeld => ?_); (focus (simp [*, go_sem])); clear hK K; (try simp only [Act.put, nA, nB, nC]); refine wpAnyH_ready (rs := [3]) (by kernel_rfl) (by simp) ?_; refine AllReadyH.cons rfl (fun K hK => ?_) AllReadyH.nil; go_simp; (go_at_call 32; refine Calls.mono (eqBlock_same _ (ax0, ax1) _ _ _ _ (O11_6_0.out.lst.below (by repeat (first | with_reducible exact Below.refl _ _ | with_reducible refine bal ?_ _ | with_reducible refine bdrew1 ?_))) (O11_6_1.out.lst.below (by repeat (first | with_reducible exact Below.refl _ _ | with_reducible refine bal ?_ _ | with_reducible refine bdrew1 ?_))) (O11_11_0.out.lst.below (by repeat (first | with_reducible exact Below.refl _ _ | with_reducible refine bal ?_ _ | with_reducible refine bdrew1 ?_))) (O11_11_1.out.lst.below (by repeat (first | with_reducible exact Below.refl _ _ | with_reducible refine bal ?_ _ | with_reducible refine bdrew1 ?_))) (by simp only; omega) (by simp only; omega)) ?_; rintro e0 w12 ⟨rfl, hb⟩; have z12 : w11.heap.size + 0 ≤ w12.heap.size := (by have := hb.size; (try simp at this); omega); have K12_p0 : Hid (w12.heap[w.heap.size]? = some (.cells #[.slice A_av0 ax0.length cap_av0, .slice A_av1 ax1.length cap_av1] 51 (0, 0))) := Lib.hid ((hb.block _ (by first | omega | (simp <;> omega))).trans (by repeat (first | with_reducible exact K11_p0.out | with_reducible exact blkal K11_p0.out _ | with_reducible exact blkal (blkal K11_p0.out _) _ | exact K11_p0.out | exact blknew _ _ | exact blknew' _ _ _ (by simp) | with_reducible refine blkal ?_ _ | with_reducible refine blkdrew ?_))); have K12_p1 : Hid (w12.heap[w.heap.size + 1]? = some (.cells #[.int .i64 b0, .int .u32 b1] 45 (0, 0))) := Lib.hid ((hb.block _ (by first | omega | (simp <;> omega))).trans (by repeat (first | with_reducible exact K11_p1.out | with_reducible exact blkal K11_p1.out _ | with_reducible exact blkal (blkal K11_p1.out _) _ | exact K11_p1.out | exact blknew _ _ | exact blknew' _ _ _ (by simp) | with_reducible refine blkal ?_ _ | with_reducible refine blkdrew ?_))); have K12_s6 : Hid (w12.heap[g6]? = some (.cells #[.int .i64 r00, .int .i64 r01] 54 (0, 0))) := Lib.hid ((hb.block _ (by first | omega | (simp <;> omega))).trans (by repeat (first | with_reducible exact K11_s6.out | with_reducible exact blkal K11_s6.out _ | with_reducible exact blkal (blkal K11_s6.out _) _ | exact K11_s6.out | exact blknew _ _ | exact blknew' _ _ _ (by simp) | with_reducible refine blkal ?_ _ | with_reducible refine blkdrew ?_))); have K12_s8 : Hid (w12.heap[w6.heap.size]? = some (.cells #[.slice A6_0 ax0.length cap6_0, .slice A6_1 ax1.length cap6_1] 58 (0, 0))) := Lib.hid ((hb.block _ (by first | omega | (simp <;> omega))).trans (by repeat (first | with_reducible exact K11_s8.out | with_reducible exact blkal K11_s8.out _ | with_reducible exact blkal (blkal K11_s8.out _) _ | exact K11_s8.out | exact blknew _ _ | exact blknew' _ _ _ (by simp) | with_reducible refine blkal ?_ _ | with_reducible refine blkdrew ?_))); have K12_s9 : Hid (w12.heap[g9]? = some (.cells #[.int .i64 r00, .int .i64 r01] 54 (0, 0))) := Lib.hid ((hb.block _ (by first | omega | (simp <;> omega))).trans (by repeat (first | with_reducible exact K11_s9.out | with_reducible exact blkal K11_s9.out _ | with_reducible exact blkal (blkal K11_s9.out _) _ | exact K11_s9.out | exact blknew _ _ | exact blknew' _ _ _ (by simp) | with_reducible refine blkal ?_ _ | with_reducible refine blkdrew ?_))); have O12_6_0 := Lib.hid (O11_6_0.out.below (Nat.le_refl _) (bthen (by repeat (first | with_reducible exact Below.refl _ _ | with_reducible refine bal ?_ _ | with_reducible refine bdrew1 ?_)) hb)); have O12_6_1 := Lib.hid (O11_6_1.out.below (Nat.le_refl _) (bthen (by repeat (first | with_reducible exact Below.refl _ _ | with_reducible refine bal ?_ _ | with_reducible refine bdrew1 ?_)) hb)); have O12_11_0 := Lib.hid (O11_11_0.out.below (Nat.le_refl _) (bthen (by repeat (first | with_reducible exact Below.refl _ _ | with_reducible refine bal ?_ _ | with_reducible refine bdrew1 ?_)) hb)); have O12_11_1 := Lib.hid (O11_11_1.out.below (Nat.le_refl _) (bthen (by repeat (first | with_reducible exact Below.refl _ _ | with_reducible refine bal ?_ _ | with_reducible refine bdrew1 ?_)) hb)); have B12 : Hid (Below w.heap.size w w12) := Lib.hid (bthen (by repeat (first | with_reducible exact B11.out | with_reducible refine bal ?_ _ | with_reducible refine bdrew1 ?_)) hb); clear O11_6_0 O11_6_1 O11_11_0 O11_11_1 K11_p0 K11_p1 K11_s6 K11_s8 K11_s9 B11 hb c11_p00 c11_p01 y11_p0 c11_p10 c11_p11 y11_p1 c11_s60 c11_s61 y11_s6 c11_s80 c11_s81 y11_s8 c11_s90 c11_s91 y11_s9; obtain ⟨c12_p00, c12_p01⟩ := blkc2 K12_p0.out; have y12_p0 : w.heap.size < w12.heap.size := blklt K12_p0.out; obtain ⟨c12_p10, c12_p11⟩ := blkc2 K12_p1.out; have y12_p1 : w.heap.size + 1 < w12.heap.size := blklt K12_p1.out; obtain ⟨c12_s60, c12_s61⟩ := blkc2 K12_s6.out; have y12_s6 : g6 < w12.heap.size := blklt K12_s6.out; obtain ⟨c12_s80, c12_s81⟩ := blkc2 K12_s8.out; have y12_s8 : w6.heap.size < w12.heap.size := blklt K12_s8.out; obtain ⟨c12_s90, c12_s91⟩ := blkc2 K12_s9.out; have y12_s9 : g9 < w12.heap.size := blklt K12_s9.out); go_wp2_with fail; refine hK.out _ _ ?_ (fun hHeld => ?_); (focus (simp [*, go_sem])); clear hK K; (try simp only [Act.put, nA, nB, nC]); refine rt 4 (some 46) (v := ?_) rfl rfl ?_ ?_; rotate_left; (focus (intro w' hSw; (try dsimp only at hSw); go_simp; (try with_reducible rfl))); (try simp only [Act.put, nA, nB, nC]); refine wpAnyH_done (by kernel_rfl) ?_ _)
        clear hHeld
        go_wp2_with fail
        exact bodyPost_ret (v := .bool true) (by simp [results, Tryz.results5, go_sem]) rfl ⟨rfl, (by first | exact B12.out | exact bal B12.out _ | exact bal (bal B12.out _) _)⟩
end Go.Proofs.YtekchdgpaemofaaGreat

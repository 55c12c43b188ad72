/- The walk of FnExactScaleSum, with what both sides return as hypotheses. -/
import Derived.Test.YtpcjinbbgnmchaaSl
import Derived.Test.YtpcjinbbgnmchaaMSum
import Derived.Test.YtpcjinbbgnmchaaTSum
import Derived.Deep.DeepCutAuto
import Derived.Deep.RegionHeld3
namespace Go.Proofs.Ytpcjinbbgnmchaa
open Go.ChangeShapes Go.WideShapes Go.ChangeAt Go.RowKit
set_option linter.unusedVariables false
set_option linter.unusedSimpArgs false
attribute [local irreducible] Calls
/-- A store into a block that was made ahead of what is owned. -/
theorem swBScaleSum {W : World} {A A' : Obj} {X X' : Array Obj} {m B : Nat} (hX : X = X') (hn : W.heap.size < B) : ∀ b, B ≤ b → b < (pls (W.alloc A) X m).heap.size → (pls (W.alloc A') X' m).heap[b]? = (pls (W.alloc A) X m).heap[b]? := fun b h1 _ => by
  have hne : b ≠ W.heap.size := by omega
  subst hX
  show (W.heap.push _ ++ X)[b]? = (W.heap.push _ ++ X)[b]?
  simp [Array.getElem?_append, Array.getElem?_push, hne]
set_option maxHeartbeats 4000000 in
set_option maxRecDepth 100000 in
theorem walkScaleSum (a0 : Int) (a1 : Int) (a2 : Int) (ax3 : List ((Int × (Int × Int)) × (Int × Int))) (av3 : Value) (b0 : Int) (b1 : Int) (r00 : Int) (r01 : Int) (r02 : Int) (R03 : List ((Int × (Int × Int)) × (Int × Int))) (r10 : Int) (mR03 : R03.length ≤ 100000) (HI0 : ∀ (W : World) (u0 : Value), Lst shTerm W ax3 u0 → ax3.length ≤ 1048576 → Calls Try.prog 9 #[.agg #[.int .i64 a0, .int .u32 a1, .int .i64 a2, u0], .agg #[.int .i64 b0, .int .i64 b1]] W fun e W' => ∃ A_03 cap_03 F_03, e = .returned (.tuple #[.agg #[.int .i64 r00, .int .u32 r01, .int .i64 r02, .slice A_03 R03.length cap_03], .int .i64 r10]) ∧ Own shTerm W.heap.size W' R03 (.slice A_03 R03.length cap_03) F_03 ∧ Below W.heap.size W W') (HS0 : ∀ (W : World) (u0 : Value), Lst shTerm W ax3 u0 → ax3.length ≤ 1048576 → Calls Try.prog 6 #[.agg #[.int .i64 a0, .int .u32 a1, .int .i64 a2, u0], .agg #[.int .i64 b0, .int .i64 b1]] W fun e W' => ∃ A_03 cap_03 F_03, e = .returned (.tuple #[.agg #[.int .i64 r00, .int .u32 r01, .int .i64 r02, .slice A_03 R03.length cap_03], .int .i64 r10]) ∧ Own shTerm W.heap.size W' R03 (.slice A_03 R03.length cap_03) F_03 ∧ Below W.heap.size W W') (w : World) (ah3 : Lst shTerm w ax3 av3) :
    Calls Try.prog 3 #[.agg #[.int .i64 a0, .int .u32 a1, .int .i64 a2, av3], .agg #[.int .i64 b0, .int .i64 b1]] w fun e0 w' => e0 = .returned (.bool true) ∧ Below w.heap.size w w' := by
  obtain ⟨A_av3, cap_av3, rfl, fax3⟩ := formTerm ah3
  have HI := Lib.hid HI0
  have HS := Lib.hid HS0
  clear HI0 HS0
  have qr00 : (r00 != r00) = false := by simp
  have qr01 : (r01 != r01) = false := by simp
  have qr02 : (r02 != r02) = false := by simp
  have qr10 : (r10 != r10) = false := by simp
  have d0 := szI_bd (left := 1048576) (n := ax3.length) (by omega) (by omega) (by omega)
  by_cases g0 : szI (1048576) ax3.length < 0
  · go_enter Try.func3, Try.ntmps3
    go_wp2_with fail
    refine Calls.mono (szFlagSum_any _ _ _ _ ax3 _ _ (ah3.below belA) (by omega) (by omega)) ?_
    rintro e0 w1 ⟨rfl, hb⟩
    have z1 : w.heap.size + 2 ≤ w1.heap.size := (by have := hb.size; (try simp at this); omega)
    have K1_p0 : Hid (w1.heap[w.heap.size]? = some (.cells #[.int .i64 a0, .int .u32 a1, .int .i64 a2, .slice A_av3 ax3.length cap_av3] 27 (0, 0))) := Lib.hid ((hb.block _ (by first | omega | (simp <;> omega))).trans (by repeat (first | exact blknew _ _ | exact blknew' _ _ _ (by simp) | with_reducible refine blkal ?_ _ | with_reducible refine blkdrew ?_)))
    have K1_p1 : Hid (w1.heap[w.heap.size + 1]? = some (.cells #[.int .i64 b0, .int .i64 b1] 29 (0, 0))) := Lib.hid ((hb.block _ (by first | omega | (simp <;> omega))).trans (by repeat (first | exact blknew _ _ | exact blknew' _ _ _ (by simp) | with_reducible refine blkal ?_ _ | with_reducible refine blkdrew ?_)))
    have B1 : Hid (Below w.heap.size w w1) := Lib.hid (bthen belA hb)
    clear hb
    obtain ⟨c1_p00, c1_p01, c1_p02, c1_p03⟩ := blkc4 K1_p0.out
    have y1_p0 : w.heap.size < w1.heap.size := blklt K1_p0.out
    obtain ⟨c1_p10, c1_p11⟩ := blkc2 K1_p1.out
    have y1_p1 : w.heap.size + 1 < w1.heap.size := blklt K1_p1.out
    go_wp2_with fail
    exact bodyPost_ret (v := .bool true) (by simp [results, Try.results3, go_sem]) rfl ⟨rfl, (by first | exact B1.out | exact bal B1.out _ | exact bal (bal B1.out _) _)⟩
  · have lax3 : ax3.length ≤ 1048576 := (by have := szI_pos g0; omega)
    go_enter Try.func3, Try.ntmps3
    go_wp2_with fail
    refine Calls.mono (szFlagSum_any _ _ _ _ ax3 _ _ (ah3.below belA) (by omega) (by omega)) ?_
    rintro e0 w1 ⟨rfl, hb⟩
    have z1 : w.heap.size + 2 ≤ w1.heap.size := (by have := hb.size; (try simp at this); omega)
    have K1_p0 : Hid (w1.heap[w.heap.size]? = some (.cells #[.int .i64 a0, .int .u32 a1, .int .i64 a2, .slice A_av3 ax3.length cap_av3] 27 (0, 0))) := Lib.hid ((hb.block _ (by first | omega | (simp <;> omega))).trans (by repeat (first | exact blknew _ _ | exact blknew' _ _ _ (by simp) | with_reducible refine blkal ?_ _ | with_reducible refine blkdrew ?_)))
    have K1_p1 : Hid (w1.heap[w.heap.size + 1]? = some (.cells #[.int .i64 b0, .int .i64 b1] 29 (0, 0))) := Lib.hid ((hb.block _ (by first | omega | (simp <;> omega))).trans (by repeat (first | exact blknew _ _ | exact blknew' _ _ _ (by simp) | with_reducible refine blkal ?_ _ | with_reducible refine blkdrew ?_)))
    have B1 : Hid (Below w.heap.size w w1) := Lib.hid (bthen belA hb)
    clear hb
    obtain ⟨c1_p00, c1_p01, c1_p02, c1_p03⟩ := blkc4 K1_p0.out
    have y1_p0 : w.heap.size < w1.heap.size := blklt K1_p0.out
    obtain ⟨c1_p10, c1_p11⟩ := blkc2 K1_p1.out
    have y1_p1 : w.heap.size + 1 < w1.heap.size := blklt K1_p1.out
    go_upto_region 5 with fail
    go_cut [6, 7] (fun s6 s7 wx => ∃ (g6 : Nat) (A4_03 : Option Addr) (cap4_03 : Nat) (F4_03 : List Nat), s6 = .pointer (some ⟨g6, 0, none⟩) ∧ s7 = .int .i64 r10 ∧ Below w.heap.size w wx ∧ w1.heap.size + 0 ≤ wx.heap.size ∧ wx.heap[w.heap.size]? = some (.cells #[.int .i64 a0, .int .u32 a1, .int .i64 a2, .slice A_av3 ax3.length cap_av3] 27 (0, 0)) ∧ wx.heap[w.heap.size + 1]? = some (.cells #[.int .i64 b0, .int .i64 b1] 29 (0, 0)) ∧ (w1.heap.size ≤ g6 ∧ g6 < wx.heap.size) ∧ wx.heap[g6]? = some (.cells #[.int .i64 r00, .int .u32 r01, .int .i64 r02, .slice A4_03 R03.length cap4_03] 34 (0, 0)) ∧ Hid (Own shTerm (w1.heap.size + 0) wx R03 (.slice A4_03 R03.length cap4_03) F4_03) ∧ Hid (∀ b ∈ F4_03, b ≠ g6))
    case first =>
      go_region_held3 (fun w' => w'.cell? ⟨w.heap.size, 0, none⟩ = some (.int .i64 a0) ∧ w'.cell? ⟨w.heap.size, 1, none⟩ = some (.int .u32 a1) ∧ w'.cell? ⟨w.heap.size, 2, none⟩ = some (.int .i64 a2) ∧ w'.cell? ⟨w.heap.size, 3, none⟩ = some (.slice A_av3 ax3.length cap_av3) ∧ w'.cell? ⟨w.heap.size + 1, 0, none⟩ = some (.int .i64 b0) ∧ w'.cell? ⟨w.heap.size + 1, 1, none⟩ = some (.int .i64 b1)) (simp [*, go_sem]) (first | (go_at_call 7; refine Calls.mono (toFlagSum_any _ (a0) (a1) (a2) ax3 _ (ah3.below (bthen B1.out belA)) (by omega)) ?_; rintro e0 w1 ⟨A2, cap2, F2, rfl, hO2, hb⟩; obtain ⟨X2, m2, rfl⟩ := plsOf hb; clear hb; (try simp only [pls_pls, drew_pls, drewN_pls, pls_drew, pls_drewN] at hO2); have hO2 := Lib.hid hO2) | (go_at_call 8; refine Calls.mono (toFraction_any (b0) (b1) _) ?_; rintro e0 w1 ⟨rfl, hb⟩; obtain ⟨X3, m3, rfl⟩ := plsOf hb; clear hb) | (go_at_call 6; refine Calls.mono (HS.out _ _ (hO2.out.lst.below belA) (by omega)) ?_; rintro e0 w1 ⟨A4_03, cap4_03, F4_03, rfl, hO4_03, hb⟩; obtain ⟨X4, m4, rfl⟩ := plsOf hb; clear hb; (try simp only [pls_pls, drew_pls, drewN_pls, pls_drew, pls_drewN] at hO4_03); have hO4_03 := Lib.hid hO4_03))
      all_goals (go_wp2_with fail; go_meet; exact ⟨_, A4_03, cap4_03, F4_03, rfl, rfl, (bthen B1.out belA), (by simp <;> omega), (by have kk := K1_p0.out; exact blkA), (by have kk := K1_p1.out; exact blkA), (by simp <;> omega), blkA, (by refine Lib.hid (Own.move hO4_03.out ?_ ?_); (focus (simp <;> omega)); (first | (with_reducible refine swBScaleSum ?_ ?_) | exact fun b _ hl => Below.block belA b hl); all_goals (first | rfl | (simp only [Array.append_assoc]; done) | (simp <;> omega))), (Lib.hid (fun b hb => by have h1 := hO4_03.out.ge b hb; have h2 := hO4_03.out.lt b hb; simp at h1 h2; omega))⟩)
    case rest =>
      obtain ⟨g6, A4_03, cap4_03, F4_03, rfl, rfl, hB, z5, k_p0, k_p1, h_g6, k_s6, n_4_03, d_4_03_s6⟩ := hcut
      obtain ⟨w5, rfl⟩ : ∃ x, x = wc := ⟨_, rfl⟩
      have B5 := Lib.hid hB
      have K5_p0 := Lib.hid k_p0
      have K5_p1 := Lib.hid k_p1
      have K5_s6 := Lib.hid k_s6
      clear hB c1_p00 c1_p01 c1_p02 c1_p03 y1_p0 c1_p10 c1_p11 y1_p1 K1_p0 K1_p1 B1 k_p0 k_p1 k_s6
      obtain ⟨c5_p00, c5_p01, c5_p02, c5_p03⟩ := blkc4 K5_p0.out
      have y5_p0 : w.heap.size < w5.heap.size := blklt K5_p0.out
      obtain ⟨c5_p10, c5_p11⟩ := blkc2 K5_p1.out
      have y5_p1 : w.heap.size + 1 < w5.heap.size := blklt K5_p1.out
      obtain ⟨c5_s60, c5_s61, c5_s62, c5_s63⟩ := blkc4 K5_s6.out
      have y5_s6 : g6 < w5.heap.size := blklt K5_s6.out
      obtain ⟨hl_g6, hu_g6⟩ := h_g6
      have L5_4_03 : Hid (∀ b ∈ F4_03, w1.heap.size + 0 ≤ b ∧ b < w5.heap.size) := Lib.hid (fun b hm => ⟨by have := n_4_03.out.ge b hm; (try simp at this); omega, n_4_03.out.lt b hm⟩)
      have O5_4_03 := n_4_03
      clear n_4_03
      go_wp2_with fail
      refine Calls.mono (toFlagSum_any _ _ _ _ ax3 _ (ah3.below (by repeat (first | with_reducible exact B5.out | with_reducible refine bal ?_ _ | with_reducible refine bdrew1 ?_))) (by omega)) ?_
      rintro e0 w6 ⟨A6, cap6, F6, rfl, hO, hb⟩
      have z6 : w5.heap.size + 0 ≤ w6.heap.size := (by have := hb.size; (try simp at this); omega)
      have K6_p0 : Hid (w6.heap[w.heap.size]? = some (.cells #[.int .i64 a0, .int .u32 a1, .int .i64 a2, .slice A_av3 ax3.length cap_av3] 27 (0, 0))) := Lib.hid ((hb.block _ (by first | omega | (simp <;> omega))).trans (by repeat (first | with_reducible exact K5_p0.out | with_reducible exact blkal K5_p0.out _ | with_reducible exact blkal (blkal K5_p0.out _) _ | exact K5_p0.out | exact blknew _ _ | exact blknew' _ _ _ (by simp) | with_reducible refine blkal ?_ _ | with_reducible refine blkdrew ?_)))
      have K6_p1 : Hid (w6.heap[w.heap.size + 1]? = some (.cells #[.int .i64 b0, .int .i64 b1] 29 (0, 0))) := Lib.hid ((hb.block _ (by first | omega | (simp <;> omega))).trans (by repeat (first | with_reducible exact K5_p1.out | with_reducible exact blkal K5_p1.out _ | with_reducible exact blkal (blkal K5_p1.out _) _ | exact K5_p1.out | exact blknew _ _ | exact blknew' _ _ _ (by simp) | with_reducible refine blkal ?_ _ | with_reducible refine blkdrew ?_)))
      have K6_s6 : Hid (w6.heap[g6]? = some (.cells #[.int .i64 r00, .int .u32 r01, .int .i64 r02, .slice A4_03 R03.length cap4_03] 34 (0, 0))) := Lib.hid ((hb.block _ (by first | omega | (simp <;> omega))).trans (by repeat (first | with_reducible exact K5_s6.out | with_reducible exact blkal K5_s6.out _ | with_reducible exact blkal (blkal K5_s6.out _) _ | exact K5_s6.out | exact blknew _ _ | exact blknew' _ _ _ (by simp) | with_reducible refine blkal ?_ _ | with_reducible refine blkdrew ?_)))
      have O6_4_03 := Lib.hid (O5_4_03.out.below (Nat.le_refl _) (bthen (by repeat (first | with_reducible exact Below.refl _ _ | with_reducible refine bal ?_ _ | with_reducible refine bdrew1 ?_)) hb))
      have B6 : Hid (Below w.heap.size w w6) := Lib.hid (bthen (by repeat (first | with_reducible exact B5.out | with_reducible refine bal ?_ _ | with_reducible refine bdrew1 ?_)) hb)
      have L6_6 : Hid (∀ b ∈ F6, w5.heap.size + 0 ≤ b ∧ b < w6.heap.size) := Lib.hid (fun b hm => ⟨by have := hO.ge b hm; (try simp at this); omega, hO.lt b hm⟩)
      have O6_6 := Lib.hid hO
      clear O5_4_03 K5_p0 K5_p1 K5_s6 hO B5 hb c5_p00 c5_p01 c5_p02 c5_p03 y5_p0 c5_p10 c5_p11 y5_p1 c5_s60 c5_s61 c5_s62 c5_s63 y5_s6
      obtain ⟨c6_p00, c6_p01, c6_p02, c6_p03⟩ := blkc4 K6_p0.out
      have y6_p0 : w.heap.size < w6.heap.size := blklt K6_p0.out
      obtain ⟨c6_p10, c6_p11⟩ := blkc2 K6_p1.out
      have y6_p1 : w.heap.size + 1 < w6.heap.size := blklt K6_p1.out
      obtain ⟨c6_s60, c6_s61, c6_s62, c6_s63⟩ := blkc4 K6_s6.out
      have y6_s6 : g6 < w6.heap.size := blklt K6_s6.out
      go_upto_region 7 with fail
      go_cut [9, 10] (fun s9 s10 wx => ∃ (g9 : Nat) (A8_03 : Option Addr) (cap8_03 : Nat) (F8_03 : List Nat), s9 = .pointer (some ⟨g9, 0, none⟩) ∧ s10 = .int .i64 r10 ∧ Below w.heap.size w wx ∧ w6.heap.size + 1 ≤ wx.heap.size ∧ wx.heap[w.heap.size]? = some (.cells #[.int .i64 a0, .int .u32 a1, .int .i64 a2, .slice A_av3 ax3.length cap_av3] 27 (0, 0)) ∧ wx.heap[w.heap.size + 1]? = some (.cells #[.int .i64 b0, .int .i64 b1] 29 (0, 0)) ∧ wx.heap[g6]? = some (.cells #[.int .i64 r00, .int .u32 r01, .int .i64 r02, .slice A4_03 R03.length cap4_03] 34 (0, 0)) ∧ wx.heap[w6.heap.size]? = some (.cells #[.int .i64 a0, .int .u32 a1, .int .i64 a2, .slice A6 ax3.length cap6] 34 (0, 0)) ∧ (w6.heap.size ≤ g9 ∧ g9 < wx.heap.size) ∧ wx.heap[g9]? = some (.cells #[.int .i64 r00, .int .u32 r01, .int .i64 r02, .slice A8_03 R03.length cap8_03] 34 (0, 0)) ∧ Hid (Own shTerm (w1.heap.size + 0) wx R03 (.slice A4_03 R03.length cap4_03) F4_03) ∧ Hid (Own shTerm _ wx ax3 (.slice A6 ax3.length cap6) F6) ∧ Hid (Own shTerm (w6.heap.size + 1) wx R03 (.slice A8_03 R03.length cap8_03) F8_03) ∧ Hid (∀ b ∈ F8_03, b ≠ g9))
      case first =>
        go_region_held3 (fun w' => w'.cell? ⟨w.heap.size + 1, 0, none⟩ = some (.int .i64 b0) ∧ w'.cell? ⟨w.heap.size + 1, 1, none⟩ = some (.int .i64 b1) ∧ w'.cell? ⟨w6.heap.size, 0, none⟩ = some (.int .i64 a0) ∧ w'.cell? ⟨w6.heap.size, 1, none⟩ = some (.int .u32 a1) ∧ w'.cell? ⟨w6.heap.size, 2, none⟩ = some (.int .i64 a2) ∧ w'.cell? ⟨w6.heap.size, 3, none⟩ = some (.slice A6 ax3.length cap6)) (simp [*, go_sem]) (first | (go_at_call 8; refine Calls.mono (toFraction_any (b0) (b1) _) ?_; rintro e0 w1 ⟨rfl, hb⟩; obtain ⟨X7, m7, rfl⟩ := plsOf hb; clear hb) | (go_at_call 9; refine Calls.mono (HI.out _ _ (O6_6.out.lst.below belA) (by omega)) ?_; rintro e0 w1 ⟨A8_03, cap8_03, F8_03, rfl, hO8_03, hb⟩; obtain ⟨X8, m8, rfl⟩ := plsOf hb; clear hb; (try simp only [pls_pls, drew_pls, drewN_pls, pls_drew, pls_drewN] at hO8_03); have hO8_03 := Lib.hid hO8_03))
        all_goals (go_wp2_with fail; go_meet; exact ⟨_, A8_03, cap8_03, F8_03, rfl, rfl, (bthen B6.out belA), (by simp <;> omega), (by have kk := K6_p0.out; exact blkA), (by have kk := K6_p1.out; exact blkA), (by have kk := K6_s6.out; exact blkA), blkA, (by simp <;> omega), blkA, (Lib.hid (O6_4_03.out.below (Nat.le_refl _) belA)), (Lib.hid (O6_6.out.below (Nat.le_refl _) belA)), (by refine Lib.hid (Own.move hO8_03.out ?_ ?_); (focus (simp <;> omega)); (first | (with_reducible refine swBScaleSum ?_ ?_) | exact fun b _ hl => Below.block belA b hl); all_goals (first | rfl | (simp only [Array.append_assoc]; done) | (simp <;> omega))), (Lib.hid (fun b hb => by have h1 := hO8_03.out.ge b hb; have h2 := hO8_03.out.lt b hb; simp at h1 h2; omega))⟩)
      case rest =>
        obtain ⟨g9, A8_03, cap8_03, F8_03, rfl, rfl, hB, z9, k_p0, k_p1, k_s6, k_s8, h_g9, k_s9, o_4_03, o_6, n_8_03, d_8_03_s9⟩ := hcut
        obtain ⟨w9, rfl⟩ : ∃ x, x = wc := ⟨_, rfl⟩
        have B9 := Lib.hid hB
        have K9_p0 := Lib.hid k_p0
        have K9_p1 := Lib.hid k_p1
        have K9_s6 := Lib.hid k_s6
        have K9_s8 := Lib.hid k_s8
        have K9_s9 := Lib.hid k_s9
        clear hB c6_p00 c6_p01 c6_p02 c6_p03 y6_p0 c6_p10 c6_p11 y6_p1 c6_s60 c6_s61 c6_s62 c6_s63 y6_s6 K6_p0 K6_p1 K6_s6 O6_4_03 O6_6 B6 k_p0 k_p1 k_s6 k_s8 k_s9
        obtain ⟨c9_p00, c9_p01, c9_p02, c9_p03⟩ := blkc4 K9_p0.out
        have y9_p0 : w.heap.size < w9.heap.size := blklt K9_p0.out
        obtain ⟨c9_p10, c9_p11⟩ := blkc2 K9_p1.out
        have y9_p1 : w.heap.size + 1 < w9.heap.size := blklt K9_p1.out
        obtain ⟨c9_s60, c9_s61, c9_s62, c9_s63⟩ := blkc4 K9_s6.out
        have y9_s6 : g6 < w9.heap.size := blklt K9_s6.out
        obtain ⟨c9_s80, c9_s81, c9_s82, c9_s83⟩ := blkc4 K9_s8.out
        have y9_s8 : w6.heap.size < w9.heap.size := blklt K9_s8.out
        obtain ⟨c9_s90, c9_s91, c9_s92, c9_s93⟩ := blkc4 K9_s9.out
        have y9_s9 : g9 < w9.heap.size := blklt K9_s9.out
        obtain ⟨hl_g9, hu_g9⟩ := h_g9
        have L9_8_03 : Hid (∀ b ∈ F8_03, w6.heap.size + 1 ≤ b ∧ b < w9.heap.size) := Lib.hid (fun b hm => ⟨by have := n_8_03.out.ge b hm; (try simp at this); omega, n_8_03.out.lt b hm⟩)
        have O9_4_03 := o_4_03
        clear o_4_03
        have O9_6 := o_6
        clear o_6
        have O9_8_03 := n_8_03
        clear n_8_03
        go_wp2_with fail
        refine Calls.mono (eqFlagSum_same _ _ _ _ R03 _ _ (O9_8_03.out.lst.below (by repeat (first | with_reducible exact Below.refl _ _ | with_reducible refine bal ?_ _ | with_reducible refine bdrew1 ?_))) (O9_4_03.out.lst.below (by repeat (first | with_reducible exact Below.refl _ _ | with_reducible refine bal ?_ _ | with_reducible refine bdrew1 ?_))) (by omega)) ?_
        rintro e0 w10 ⟨rfl, hb⟩
        have z10 : w9.heap.size + 0 ≤ w10.heap.size := (by have := hb.size; (try simp at this); omega)
        have K10_p0 : Hid (w10.heap[w.heap.size]? = some (.cells #[.int .i64 a0, .int .u32 a1, .int .i64 a2, .slice A_av3 ax3.length cap_av3] 27 (0, 0))) := Lib.hid ((hb.block _ (by first | omega | (simp <;> omega))).trans (by repeat (first | with_reducible exact K9_p0.out | with_reducible exact blkal K9_p0.out _ | with_reducible exact blkal (blkal K9_p0.out _) _ | exact K9_p0.out | exact blknew _ _ | exact blknew' _ _ _ (by simp) | with_reducible refine blkal ?_ _ | with_reducible refine blkdrew ?_)))
        have K10_p1 : Hid (w10.heap[w.heap.size + 1]? = some (.cells #[.int .i64 b0, .int .i64 b1] 29 (0, 0))) := Lib.hid ((hb.block _ (by first | omega | (simp <;> omega))).trans (by repeat (first | with_reducible exact K9_p1.out | with_reducible exact blkal K9_p1.out _ | with_reducible exact blkal (blkal K9_p1.out _) _ | exact K9_p1.out | exact blknew _ _ | exact blknew' _ _ _ (by simp) | with_reducible refine blkal ?_ _ | with_reducible refine blkdrew ?_)))
        have K10_s6 : Hid (w10.heap[g6]? = some (.cells #[.int .i64 r00, .int .u32 r01, .int .i64 r02, .slice A4_03 R03.length cap4_03] 34 (0, 0))) := Lib.hid ((hb.block _ (by first | omega | (simp <;> omega))).trans (by repeat (first | with_reducible exact K9_s6.out | with_reducible exact blkal K9_s6.out _ | with_reducible exact blkal (blkal K9_s6.out _) _ | exact K9_s6.out | exact blknew _ _ | exact blknew' _ _ _ (by simp) | with_reducible refine blkal ?_ _ | with_reducible refine blkdrew ?_)))
        have K10_s8 : Hid (w10.heap[w6.heap.size]? = some (.cells #[.int .i64 a0, .int .u32 a1, .int .i64 a2, .slice A6 ax3.length cap6] 34 (0, 0))) := Lib.hid ((hb.block _ (by first | omega | (simp <;> omega))).trans (by repeat (first | with_reducible exact K9_s8.out | with_reducible exact blkal K9_s8.out _ | with_reducible exact blkal (blkal K9_s8.out _) _ | exact K9_s8.out | exact blknew _ _ | exact blknew' _ _ _ (by simp) | with_reducible refine blkal ?_ _ | with_reducible refine blkdrew ?_)))
        have K10_s9 : Hid (w10.heap[g9]? = some (.cells #[.int .i64 r00, .int .u32 r01, .int .i64 r02, .slice A8_03 R03.length cap8_03] 34 (0, 0))) := Lib.hid ((hb.block _ (by first | omega | (simp <;> omega))).trans (by repeat (first | with_reducible exact K9_s9.out | with_reducible exact blkal K9_s9.out _ | with_reducible exact blkal (blkal K9_s9.out _) _ | exact K9_s9.out | exact blknew _ _ | exact blknew' _ _ _ (by simp) | with_reducible refine blkal ?_ _ | with_reducible refine blkdrew ?_)))
        have O10_4_03 := Lib.hid (O9_4_03.out.below (Nat.le_refl _) (bthen (by repeat (first | with_reducible exact Below.refl _ _ | with_reducible refine bal ?_ _ | with_reducible refine bdrew1 ?_)) hb))
        have O10_6 := Lib.hid (O9_6.out.below (Nat.le_refl _) (bthen (by repeat (first | with_reducible exact Below.refl _ _ | with_reducible refine bal ?_ _ | with_reducible refine bdrew1 ?_)) hb))
        have O10_8_03 := Lib.hid (O9_8_03.out.below (Nat.le_refl _) (bthen (by repeat (first | with_reducible exact Below.refl _ _ | with_reducible refine bal ?_ _ | with_reducible refine bdrew1 ?_)) hb))
        have B10 : Hid (Below w.heap.size w w10) := Lib.hid (bthen (by repeat (first | with_reducible exact B9.out | with_reducible refine bal ?_ _ | with_reducible refine bdrew1 ?_)) hb)
        clear O9_4_03 O9_6 O9_8_03 K9_p0 K9_p1 K9_s6 K9_s8 K9_s9 B9 hb c9_p00 c9_p01 c9_p02 c9_p03 y9_p0 c9_p10 c9_p11 y9_p1 c9_s60 c9_s61 c9_s62 c9_s63 y9_s6 c9_s80 c9_s81 c9_s82 c9_s83 y9_s8 c9_s90 c9_s91 c9_s92 c9_s93 y9_s9
        obtain ⟨c10_p00, c10_p01, c10_p02, c10_p03⟩ := blkc4 K10_p0.out
        have y10_p0 : w.heap.size < w10.heap.size := blklt K10_p0.out
        obtain ⟨c10_p10, c10_p11⟩ := blkc2 K10_p1.out
        have y10_p1 : w.heap.size + 1 < w10.heap.size := blklt K10_p1.out
        obtain ⟨c10_s60, c10_s61, c10_s62, c10_s63⟩ := blkc4 K10_s6.out
        have y10_s6 : g6 < w10.heap.size := blklt K10_s6.out
        obtain ⟨c10_s80, c10_s81, c10_s82, c10_s83⟩ := blkc4 K10_s8.out
        have y10_s8 : w6.heap.size < w10.heap.size := blklt K10_s8.out
        obtain ⟨c10_s90, c10_s91, c10_s92, c10_s93⟩ := blkc4 K10_s9.out
        have y10_s9 : g9 < w10.heap.size := blklt K10_s9.out
        go_wp2_with fail
        (refine wp_region_held_drew (S := (fun w' => w'.cell? ⟨w.heap.size, 0, none⟩ = some (.int .i64 a0) ∧ w'.cell? ⟨w.heap.size, 1, none⟩ = some (.int .u32 a1) ∧ w'.cell? ⟨w.heap.size, 2, none⟩ = some (.int .i64 a2) ∧ w'.cell? ⟨w.heap.size, 3, none⟩ = some (.slice A_av3 ax3.length cap_av3) ∧ w'.cell? ⟨w6.heap.size, 0, none⟩ = some (.int .i64 a0) ∧ w'.cell? ⟨w6.heap.size, 1, none⟩ = some (.int .u32 a1) ∧ w'.cell? ⟨w6.heap.size, 2, none⟩ = some (.int .i64 a2) ∧ w'.cell? ⟨w6.heap.size, 3, none⟩ = some (.slice A6 ax3.length cap6))) (by kernel_rfl) ?_ (fun hHeld => ?_); (focus (simp [*, go_sem])); refine rt 0 (some 47) (v := ?_) rfl rfl ?_ ?_; rotate_left; (focus (intro w' hSw; (try dsimp only at hSw); go_simp; (try with_reducible rfl))); (try simp only [Act.put, nA, nB, nC]); refine rt 1 (some 48) (v := ?_) rfl rfl ?_ ?_; rotate_left; (focus (intro w' hSw; (try dsimp only at hSw); go_simp; (try with_reducible rfl))); (try simp only [Act.put, nA, nB, nC]); refine wpAnyH_ready (rs := [2]) (by kernel_rfl) (by simp) ?_; refine AllReadyH.cons rfl (fun K hK => ?_) AllReadyH.nil; go_simp; (go_at_call 7; refine Calls.mono (toFlagSum_any _ _ _ _ ax3 _ (ah3.below (by repeat (first | with_reducible exact B10.out | with_reducible refine bal ?_ _ | with_reducible refine bdrew1 ?_))) (by omega)) ?_; rintro e0 w11 ⟨A11, cap11, F11, rfl, hO, hb⟩; have z11 : w10.heap.size + 0 ≤ w11.heap.size := (by have := hb.size; (try simp at this); omega); have K11_p0 : Hid (w11.heap[w.heap.size]? = some (.cells #[.int .i64 a0, .int .u32 a1, .int .i64 a2, .slice A_av3 ax3.length cap_av3] 27 (0, 0))) := Lib.hid ((hb.block _ (by first | omega | (simp <;> omega))).trans (by repeat (first | with_reducible exact K10_p0.out | with_reducible exact blkal K10_p0.out _ | with_reducible exact blkal (blkal K10_p0.out _) _ | exact K10_p0.out | exact blknew _ _ | exact blknew' _ _ _ (by simp) | with_reducible refine blkal ?_ _ | with_reducible refine blkdrew ?_))); have K11_p1 : Hid (w11.heap[w.heap.size + 1]? = some (.cells #[.int .i64 b0, .int .i64 b1] 29 (0, 0))) := Lib.hid ((hb.block _ (by first | omega | (simp <;> omega))).trans (by repeat (first | with_reducible exact K10_p1.out | with_reducible exact blkal K10_p1.out _ | with_reducible exact blkal (blkal K10_p1.out _) _ | exact K10_p1.out | exact blknew _ _ | exact blknew' _ _ _ (by simp) | with_reducible refine blkal ?_ _ | with_reducible refine blkdrew ?_))); have K11_s6 : Hid (w11.heap[g6]? = some (.cells #[.int .i64 r00, .int .u32 r01, .int .i64 r02, .slice A4_03 R03.length cap4_03] 34 (0, 0))) := Lib.hid ((hb.block _ (by first | omega | (simp <;> omega))).trans (by repeat (first | with_reducible exact K10_s6.out | with_reducible exact blkal K10_s6.out _ | with_reducible exact blkal (blkal K10_s6.out _) _ | exact K10_s6.out | exact blknew _ _ | exact blknew' _ _ _ (by simp) | with_reducible refine blkal ?_ _ | with_reducible refine blkdrew ?_))); have K11_s8 : Hid (w11.heap[w6.heap.size]? = some (.cells #[.int .i64 a0, .int .u32 a1, .int .i64 a2, .slice A6 ax3.length cap6] 34 (0, 0))) := Lib.hid ((hb.block _ (by first | omega | (simp <;> omega))).trans (by repeat (first | with_reducible exact K10_s8.out | with_reducible exact blkal K10_s8.out _ | with_reducible exact blkal (blkal K10_s8.out _) _ | exact K10_s8.out | exact blknew _ _ | exact blknew' _ _ _ (by simp) | with_reducible refine blkal ?_ _ | with_reducible refine blkdrew ?_))); have K11_s9 : Hid (w11.heap[g9]? = some (.cells #[.int .i64 r00, .int .u32 r01, .int .i64 r02, .slice A8_03 R03.length cap8_03] 34 (0, 0))) := Lib.hid ((hb.block _ (by first | omega | (simp <;> omega))).trans (by repeat (first | with_reducible exact K10_s9.out | with_reducible exact blkal K10_s9.out _ | with_reducible exact blkal (blkal K10_s9.out _) _ | exact K10_s9.out | exact blknew _ _ | exact blknew' _ _ _ (by simp) | with_reducible refine blkal ?_ _ | with_reducible refine blkdrew ?_))); have O11_4_03 := Lib.hid (O10_4_03.out.below (Nat.le_refl _) (bthen (by repeat (first | with_reducible exact Below.refl _ _ | with_reducible refine bal ?_ _ | with_reducible refine bdrew1 ?_)) hb)); have O11_6 := Lib.hid (O10_6.out.below (Nat.le_refl _) (bthen (by repeat (first | with_reducible exact Below.refl _ _ | with_reducible refine bal ?_ _ | with_reducible refine bdrew1 ?_)) hb)); have O11_8_03 := Lib.hid (O10_8_03.out.below (Nat.le_refl _) (bthen (by repeat (first | with_reducible exact Below.refl _ _ | with_reducible refine bal ?_ _ | with_reducible refine bdrew1 ?_)) hb)); have B11 : Hid (Below w.heap.size w w11) := Lib.hid (bthen (by repeat (first | with_reducible exact B10.out | with_reducible refine bal ?_ _ | with_reducible refine bdrew1 ?_)) hb); have L11_11 : Hid (∀ b ∈ F11, w10.heap.size + 0 ≤ b ∧ b < w11.heap.size) := Lib.hid (fun b hm => ⟨by have := hO.ge b hm; (try simp at this); omega, hO.lt b hm⟩); have O11_11 := Lib.hid hO; clear O10_4_03 O10_6 O10_8_03 K10_p0 K10_p1 K10_s6 K10_s8 K10_s9 hO B10 hb c10_p00 c10_p01 c10_p02 c10_p03 y10_p0 c10_p10 c10_p11 y10_p1 c10_s60 c10_s61 c10_s62 c10_s63 y10_s6 c10_s80 c10_s81 c10_s82 c10_s83 y10_s8 c10_s90 c10_s91 c10_s92 c10_s93 y10_s9; obtain ⟨c11_p00, c11_p01, c11_p02, c11_p03⟩ := blkc4 K11_p0.out; have y11_p0 : w.heap.size < w11.heap.size := blklt K11_p0.out; obtain ⟨c11_p10, c11_p11⟩ := blkc2 K11_p1.out; have y11_p1 : w.heap.size + 1 < w11.heap.size := blklt K11_p1.out; obtain ⟨c11_s60, c11_s61, c11_s62, c11_s63⟩ := blkc4 K11_s6.out; have y11_s6 : g6 < w11.heap.size := blklt K11_s6.out; obtain ⟨c11_s80, c11_s81, c11_s82, c11_s83⟩ := blkc4 K11_s8.out; have y11_s8 : w6.heap.size < w11.heap.size := blklt K11_s8.out; obtain ⟨c11_s90, c11_s91, c11_s92, c11_s93⟩ := blkc4 K11_s9.out; have y11_s9 : g9 < w11.heap.size := blklt K11_s9.out); go_wp2_with fail; refine hK.out _ _ ?_ (fun hHeld => ?_); (focus (simp [*, go_sem])); clear hK K; (try simp only [Act.put, nA, nB, nC]); refine wpAnyH_ready (rs := [3]) (by kernel_rfl) (by simp) ?_; refine AllReadyH.cons rfl (fun K hK => ?_) AllReadyH.nil; go_simp; (go_at_call 10; refine Calls.mono (eqFlagSum_same _ _ _ _ ax3 _ _ (O11_6.out.lst.below (by repeat (first | with_reducible exact Below.refl _ _ | with_reducible refine bal ?_ _ | with_reducible refine bdrew1 ?_))) (O11_11.out.lst.below (by repeat (first | with_reducible exact Below.refl _ _ | with_reducible refine bal ?_ _ | with_reducible refine bdrew1 ?_))) (by omega)) ?_; rintro e0 w12 ⟨rfl, hb⟩; have z12 : w11.heap.size + 0 ≤ w12.heap.size := (by have := hb.size; (try simp at this); omega); have K12_p0 : Hid (w12.heap[w.heap.size]? = some (.cells #[.int .i64 a0, .int .u32 a1, .int .i64 a2, .slice A_av3 ax3.length cap_av3] 27 (0, 0))) := Lib.hid ((hb.block _ (by first | omega | (simp <;> omega))).trans (by repeat (first | with_reducible exact K11_p0.out | with_reducible exact blkal K11_p0.out _ | with_reducible exact blkal (blkal K11_p0.out _) _ | exact K11_p0.out | exact blknew _ _ | exact blknew' _ _ _ (by simp) | with_reducible refine blkal ?_ _ | with_reducible refine blkdrew ?_))); have K12_p1 : Hid (w12.heap[w.heap.size + 1]? = some (.cells #[.int .i64 b0, .int .i64 b1] 29 (0, 0))) := Lib.hid ((hb.block _ (by first | omega | (simp <;> omega))).trans (by repeat (first | with_reducible exact K11_p1.out | with_reducible exact blkal K11_p1.out _ | with_reducible exact blkal (blkal K11_p1.out _) _ | exact K11_p1.out | exact blknew _ _ | exact blknew' _ _ _ (by simp) | with_reducible refine blkal ?_ _ | with_reducible refine blkdrew ?_))); have K12_s6 : Hid (w12.heap[g6]? = some (.cells #[.int .i64 r00, .int .u32 r01, .int .i64 r02, .slice A4_03 R03.length cap4_03] 34 (0, 0))) := Lib.hid ((hb.block _ (by first | omega | (simp <;> omega))).trans (by repeat (first | with_reducible exact K11_s6.out | with_reducible exact blkal K11_s6.out _ | with_reducible exact blkal (blkal K11_s6.out _) _ | exact K11_s6.out | exact blknew _ _ | exact blknew' _ _ _ (by simp) | with_reducible refine blkal ?_ _ | with_reducible refine blkdrew ?_))); have K12_s8 : Hid (w12.heap[w6.heap.size]? = some (.cells #[.int .i64 a0, .int .u32 a1, .int .i64 a2, .slice A6 ax3.length cap6] 34 (0, 0))) := Lib.hid ((hb.block _ (by first | omega | (simp <;> omega))).trans (by repeat (first | with_reducible exact K11_s8.out | with_reducible exact blkal K11_s8.out _ | with_reducible exact blkal (blkal K11_s8.out _) _ | exact K11_s8.out | exact blknew _ _ | exact blknew' _ _ _ (by simp) | with_reducible refine blkal ?_ _ | with_reducible refine blkdrew ?_))); have K12_s9 : Hid (w12.heap[g9]? = some (.cells #[.int .i64 r00, .int .u32 r01, .int .i64 r02, .slice A8_03 R03.length cap8_03] 34 (0, 0))) := Lib.hid ((hb.block _ (by first | omega | (simp <;> omega))).trans (by repeat (first | with_reducible exact K11_s9.out | with_reducible exact blkal K11_s9.out _ | with_reducible exact blkal (blkal K11_s9.out _) _ | exact K11_s9.out | exact blknew _ _ | exact blknew' _ _ _ (by simp) | with_reducible refine blkal ?_ _ | with_reducible refine blkdrew ?_))); have O12_4_03 := Lib.hid (O11_4_03.out.below (Nat.le_refl _) (bthen (by repeat (first | with_reducible exact Below.refl _ _ | with_reducible refine bal ?_ _ | with_reducible refine bdrew1 ?_)) hb)); have O12_6 := Lib.hid (O11_6.out.below (Nat.le_refl _) (bthen (by repeat (first | with_reducible exact Below.refl _ _ | with_reducible refine bal ?_ _ | with_reducible refine bdrew1 ?_)) hb)); have O12_8_03 := Lib.hid (O11_8_03.out.below (Nat.le_refl _) (bthen (by repeat (first | with_reducible exact Below.refl _ _ | with_reducible refine bal ?_ _ | with_reducible refine bdrew1 ?_)) hb)); have O12_11 := Lib.hid (O11_11.out.below (Nat.le_refl _) (bthen (by repeat (first | with_reducible exact Below.refl _ _ | with_reducible refine bal ?_ _ | with_reducible refine bdrew1 ?_)) hb)); have B12 : Hid (Below w.heap.size w w12) := Lib.hid (bthen (by repeat (first | with_reducible exact B11.out | with_reducible refine bal ?_ _ | with_reducible refine bdrew1 ?_)) hb); clear O11_4_03 O11_6 O11_8_03 O11_11 K11_p0 K11_p1 K11_s6 K11_s8 K11_s9 B11 hb c11_p00 c11_p01 c11_p02 c11_p03 y11_p0 c11_p10 c11_p11 y11_p1 c11_s60 c11_s61 c11_s62 c11_s63 y11_s6 c11_s80 c11_s81 c11_s82 c11_s83 y11_s8 c11_s90 c11_s91 c11_s92 c11_s93 y11_s9; obtain ⟨c12_p00, c12_p01, c12_p02, c12_p03⟩ := blkc4 K12_p0.out; have y12_p0 : w.heap.size < w12.heap.size := blklt K12_p0.out; obtain ⟨c12_p10, c12_p11⟩ := blkc2 K12_p1.out; have y12_p1 : w.heap.size + 1 < w12.heap.size := blklt K12_p1.out; obtain ⟨c12_s60, c12_s61, c12_s62, c12_s63⟩ := blkc4 K12_s6.out; have y12_s6 : g6 < w12.heap.size := blklt K12_s6.out; obtain ⟨c12_s80, c12_s81, c12_s82, c12_s83⟩ := blkc4 K12_s8.out; have y12_s8 : w6.heap.size < w12.heap.size := blklt K12_s8.out; obtain ⟨c12_s90, c12_s91, c12_s92, c12_s93⟩ := blkc4 K12_s9.out; have y12_s9 : g9 < w12.heap.size := blklt K12_s9.out); go_wp2_with fail; refine hK.out _ _ ?_ (fun hHeld => ?_); (focus (simp [*, go_sem])); clear hK K; (try simp only [Act.put, nA, nB, nC]); refine rt 4 (some 51) (v := ?_) rfl rfl ?_ ?_; rotate_left; (focus (intro w' hSw; (try dsimp only at hSw); go_simp; (try with_reducible rfl))); (try simp only [Act.put, nA, nB, nC]); refine wpAnyH_done (by kernel_rfl) ?_ _)
        clear hHeld
        go_wp2_with fail
        refine Calls.mono (markFlagSum_any _ _ _ _ _ ax3 _ _ _ (O12_6.out.below (Nat.le_refl _) (by repeat (first | with_reducible exact Below.refl _ _ | with_reducible refine bal ?_ _ | with_reducible refine bdrew1 ?_))) (by omega) (by omega)) ?_
        rintro e0 w13 ⟨rfl, hO, hC⟩
        have z13 : w12.heap.size + 0 ≤ w13.heap.size := (by have := hC.2.2.2.1; (try simp at this); omega)
        have N13 := L6_6.out
        have K13_p0 : Hid (w13.heap[w.heap.size]? = some (.cells #[.int .i64 a0, .int .u32 a1, .int .i64 a2, .slice A_av3 ax3.length cap_av3] 27 (0, 0))) := Lib.hid ((hC.2.2.2.2 _ (by first | omega | (simp <;> omega)) (fun hm => by first | (have := N13 _ hm; omega))).trans (by repeat (first | with_reducible exact K12_p0.out | with_reducible exact blkal K12_p0.out _ | with_reducible exact blkal (blkal K12_p0.out _) _ | exact K12_p0.out | exact blknew _ _ | exact blknew' _ _ _ (by simp) | with_reducible refine blkal ?_ _ | with_reducible refine blkdrew ?_)))
        have K13_p1 : Hid (w13.heap[w.heap.size + 1]? = some (.cells #[.int .i64 b0, .int .i64 b1] 29 (0, 0))) := Lib.hid ((hC.2.2.2.2 _ (by first | omega | (simp <;> omega)) (fun hm => by first | (have := N13 _ hm; omega))).trans (by repeat (first | with_reducible exact K12_p1.out | with_reducible exact blkal K12_p1.out _ | with_reducible exact blkal (blkal K12_p1.out _) _ | exact K12_p1.out | exact blknew _ _ | exact blknew' _ _ _ (by simp) | with_reducible refine blkal ?_ _ | with_reducible refine blkdrew ?_)))
        have K13_s6 : Hid (w13.heap[g6]? = some (.cells #[.int .i64 r00, .int .u32 r01, .int .i64 r02, .slice A4_03 R03.length cap4_03] 34 (0, 0))) := Lib.hid ((hC.2.2.2.2 _ (by first | omega | (simp <;> omega)) (fun hm => by first | (have := N13 _ hm; omega))).trans (by repeat (first | with_reducible exact K12_s6.out | with_reducible exact blkal K12_s6.out _ | with_reducible exact blkal (blkal K12_s6.out _) _ | exact K12_s6.out | exact blknew _ _ | exact blknew' _ _ _ (by simp) | with_reducible refine blkal ?_ _ | with_reducible refine blkdrew ?_)))
        have K13_s8 : Hid (w13.heap[w6.heap.size]? = some (.cells #[.int .i64 a0, .int .u32 a1, .int .i64 a2, .slice A6 ax3.length cap6] 34 (0, 0))) := Lib.hid ((hC.2.2.2.2 _ (by first | omega | (simp <;> omega)) (fun hm => by first | (have := N13 _ hm; omega))).trans (by repeat (first | with_reducible exact K12_s8.out | with_reducible exact blkal K12_s8.out _ | with_reducible exact blkal (blkal K12_s8.out _) _ | exact K12_s8.out | exact blknew _ _ | exact blknew' _ _ _ (by simp) | with_reducible refine blkal ?_ _ | with_reducible refine blkdrew ?_)))
        have K13_s9 : Hid (w13.heap[g9]? = some (.cells #[.int .i64 r00, .int .u32 r01, .int .i64 r02, .slice A8_03 R03.length cap8_03] 34 (0, 0))) := Lib.hid ((hC.2.2.2.2 _ (by first | omega | (simp <;> omega)) (fun hm => by first | (have := N13 _ hm; omega))).trans (by repeat (first | with_reducible exact K12_s9.out | with_reducible exact blkal K12_s9.out _ | with_reducible exact blkal (blkal K12_s9.out _) _ | exact K12_s9.out | exact blknew _ _ | exact blknew' _ _ _ (by simp) | with_reducible refine blkal ?_ _ | with_reducible refine blkdrew ?_)))
        have O13_4_03 := Lib.hid (Own.bchgR O12_4_03.out (by repeat (first | with_reducible exact Below.refl _ _ | with_reducible refine bal ?_ _ | with_reducible refine bdrew1 ?_)) hC (fun b g1 g2 => by have := L5_4_03.out b g1; have := N13 b g2; omega))
        have O13_6 := Lib.hid hO
        have O13_8_03 := Lib.hid (Own.bchgR O12_8_03.out (by repeat (first | with_reducible exact Below.refl _ _ | with_reducible refine bal ?_ _ | with_reducible refine bdrew1 ?_)) hC (fun b g1 g2 => by have := L9_8_03.out b g1; have := N13 b g2; omega))
        have O13_11 := Lib.hid (Own.bchgR O12_11.out (by repeat (first | with_reducible exact Below.refl _ _ | with_reducible refine bal ?_ _ | with_reducible refine bdrew1 ?_)) hC (fun b g1 g2 => by have := L11_11.out b g1; have := N13 b g2; omega))
        have B13 : Hid (Below w.heap.size w w13) := Lib.hid (Below.trans (by repeat (first | with_reducible exact B12.out | with_reducible refine bal ?_ _ | with_reducible refine bdrew1 ?_)) (hC.below (B := w.heap.size) (fun b g2 => by have := N13 b g2; omega) (by first | omega | (simp; omega))))
        clear O12_4_03 O12_6 O12_8_03 O12_11 K12_p0 K12_p1 K12_s6 K12_s8 K12_s9 B12 hC N13 c12_p00 c12_p01 c12_p02 c12_p03 y12_p0 c12_p10 c12_p11 y12_p1 c12_s60 c12_s61 c12_s62 c12_s63 y12_s6 c12_s80 c12_s81 c12_s82 c12_s83 y12_s8 c12_s90 c12_s91 c12_s92 c12_s93 y12_s9
        obtain ⟨c13_p00, c13_p01, c13_p02, c13_p03⟩ := blkc4 K13_p0.out
        have y13_p0 : w.heap.size < w13.heap.size := blklt K13_p0.out
        obtain ⟨c13_p10, c13_p11⟩ := blkc2 K13_p1.out
        have y13_p1 : w.heap.size + 1 < w13.heap.size := blklt K13_p1.out
        obtain ⟨c13_s60, c13_s61, c13_s62, c13_s63⟩ := blkc4 K13_s6.out
        have y13_s6 : g6 < w13.heap.size := blklt K13_s6.out
        obtain ⟨c13_s80, c13_s81, c13_s82, c13_s83⟩ := blkc4 K13_s8.out
        have y13_s8 : w6.heap.size < w13.heap.size := blklt K13_s8.out
        obtain ⟨c13_s90, c13_s91, c13_s92, c13_s93⟩ := blkc4 K13_s9.out
        have y13_s9 : g9 < w13.heap.size := blklt K13_s9.out
        have hk13 : (0 : Int) ≤ 1 + 5 * (ax3.length : Int) := (by omega)
        have hq13 : ((1 + 5 * (ax3.length : Int)) != (1 + 5 * (ax3.length : Int))) = false := (by simp)
        go_wp2_with fail
        refine Calls.mono (eqFlagSum_same _ _ _ _ R03 _ _ (O13_8_03.out.lst.below (by repeat (first | with_reducible exact Below.refl _ _ | with_reducible refine bal ?_ _ | with_reducible refine bdrew1 ?_))) (O13_4_03.out.lst.below (by repeat (first | with_reducible exact Below.refl _ _ | with_reducible refine bal ?_ _ | with_reducible refine bdrew1 ?_))) (by omega)) ?_
        rintro e0 w14 ⟨rfl, hb⟩
        have z14 : w13.heap.size + 0 ≤ w14.heap.size := (by have := hb.size; (try simp at this); omega)
        have K14_p0 : Hid (w14.heap[w.heap.size]? = some (.cells #[.int .i64 a0, .int .u32 a1, .int .i64 a2, .slice A_av3 ax3.length cap_av3] 27 (0, 0))) := Lib.hid ((hb.block _ (by first | omega | (simp <;> omega))).trans (by repeat (first | with_reducible exact K13_p0.out | with_reducible exact blkal K13_p0.out _ | with_reducible exact blkal (blkal K13_p0.out _) _ | exact K13_p0.out | exact blknew _ _ | exact blknew' _ _ _ (by simp) | with_reducible refine blkal ?_ _ | with_reducible refine blkdrew ?_)))
        have K14_p1 : Hid (w14.heap[w.heap.size + 1]? = some (.cells #[.int .i64 b0, .int .i64 b1] 29 (0, 0))) := Lib.hid ((hb.block _ (by first | omega | (simp <;> omega))).trans (by repeat (first | with_reducible exact K13_p1.out | with_reducible exact blkal K13_p1.out _ | with_reducible exact blkal (blkal K13_p1.out _) _ | exact K13_p1.out | exact blknew _ _ | exact blknew' _ _ _ (by simp) | with_reducible refine blkal ?_ _ | with_reducible refine blkdrew ?_)))
        have K14_s6 : Hid (w14.heap[g6]? = some (.cells #[.int .i64 r00, .int .u32 r01, .int .i64 r02, .slice A4_03 R03.length cap4_03] 34 (0, 0))) := Lib.hid ((hb.block _ (by first | omega | (simp <;> omega))).trans (by repeat (first | with_reducible exact K13_s6.out | with_reducible exact blkal K13_s6.out _ | with_reducible exact blkal (blkal K13_s6.out _) _ | exact K13_s6.out | exact blknew _ _ | exact blknew' _ _ _ (by simp) | with_reducible refine blkal ?_ _ | with_reducible refine blkdrew ?_)))
        have K14_s8 : Hid (w14.heap[w6.heap.size]? = some (.cells #[.int .i64 a0, .int .u32 a1, .int .i64 a2, .slice A6 ax3.length cap6] 34 (0, 0))) := Lib.hid ((hb.block _ (by first | omega | (simp <;> omega))).trans (by repeat (first | with_reducible exact K13_s8.out | with_reducible exact blkal K13_s8.out _ | with_reducible exact blkal (blkal K13_s8.out _) _ | exact K13_s8.out | exact blknew _ _ | exact blknew' _ _ _ (by simp) | with_reducible refine blkal ?_ _ | with_reducible refine blkdrew ?_)))
        have K14_s9 : Hid (w14.heap[g9]? = some (.cells #[.int .i64 r00, .int .u32 r01, .int .i64 r02, .slice A8_03 R03.length cap8_03] 34 (0, 0))) := Lib.hid ((hb.block _ (by first | omega | (simp <;> omega))).trans (by repeat (first | with_reducible exact K13_s9.out | with_reducible exact blkal K13_s9.out _ | with_reducible exact blkal (blkal K13_s9.out _) _ | exact K13_s9.out | exact blknew _ _ | exact blknew' _ _ _ (by simp) | with_reducible refine blkal ?_ _ | with_reducible refine blkdrew ?_)))
        have O14_4_03 := Lib.hid (O13_4_03.out.below (Nat.le_refl _) (bthen (by repeat (first | with_reducible exact Below.refl _ _ | with_reducible refine bal ?_ _ | with_reducible refine bdrew1 ?_)) hb))
        have O14_6 := Lib.hid (O13_6.out.below (Nat.le_refl _) (bthen (by repeat (first | with_reducible exact Below.refl _ _ | with_reducible refine bal ?_ _ | with_reducible refine bdrew1 ?_)) hb))
        have O14_8_03 := Lib.hid (O13_8_03.out.below (Nat.le_refl _) (bthen (by repeat (first | with_reducible exact Below.refl _ _ | with_reducible refine bal ?_ _ | with_reducible refine bdrew1 ?_)) hb))
        have O14_11 := Lib.hid (O13_11.out.below (Nat.le_refl _) (bthen (by repeat (first | with_reducible exact Below.refl _ _ | with_reducible refine bal ?_ _ | with_reducible refine bdrew1 ?_)) hb))
        have B14 : Hid (Below w.heap.size w w14) := Lib.hid (bthen (by repeat (first | with_reducible exact B13.out | with_reducible refine bal ?_ _ | with_reducible refine bdrew1 ?_)) hb)
        clear O13_4_03 O13_6 O13_8_03 O13_11 K13_p0 K13_p1 K13_s6 K13_s8 K13_s9 B13 hb c13_p00 c13_p01 c13_p02 c13_p03 y13_p0 c13_p10 c13_p11 y13_p1 c13_s60 c13_s61 c13_s62 c13_s63 y13_s6 c13_s80 c13_s81 c13_s82 c13_s83 y13_s8 c13_s90 c13_s91 c13_s92 c13_s93 y13_s9
        obtain ⟨c14_p00, c14_p01, c14_p02, c14_p03⟩ := blkc4 K14_p0.out
        have y14_p0 : w.heap.size < w14.heap.size := blklt K14_p0.out
        obtain ⟨c14_p10, c14_p11⟩ := blkc2 K14_p1.out
        have y14_p1 : w.heap.size + 1 < w14.heap.size := blklt K14_p1.out
        obtain ⟨c14_s60, c14_s61, c14_s62, c14_s63⟩ := blkc4 K14_s6.out
        have y14_s6 : g6 < w14.heap.size := blklt K14_s6.out
        obtain ⟨c14_s80, c14_s81, c14_s82, c14_s83⟩ := blkc4 K14_s8.out
        have y14_s8 : w6.heap.size < w14.heap.size := blklt K14_s8.out
        obtain ⟨c14_s90, c14_s91, c14_s92, c14_s93⟩ := blkc4 K14_s9.out
        have y14_s9 : g9 < w14.heap.size := blklt K14_s9.out
        go_wp2_with fail
        refine Calls.mono (markFlagSum_any _ _ _ _ _ R03 _ _ _ (O14_8_03.out.below (Nat.le_refl _) (by repeat (first | with_reducible exact Below.refl _ _ | with_reducible refine bal ?_ _ | with_reducible refine bdrew1 ?_))) (by omega) (by omega)) ?_
        rintro e0 w15 ⟨rfl, hO, hC⟩
        have z15 : w14.heap.size + 0 ≤ w15.heap.size := (by have := hC.2.2.2.1; (try simp at this); omega)
        have N15 := L9_8_03.out
        have K15_p0 : Hid (w15.heap[w.heap.size]? = some (.cells #[.int .i64 a0, .int .u32 a1, .int .i64 a2, .slice A_av3 ax3.length cap_av3] 27 (0, 0))) := Lib.hid ((hC.2.2.2.2 _ (by first | omega | (simp <;> omega)) (fun hm => by first | (have := N15 _ hm; omega))).trans (by repeat (first | with_reducible exact K14_p0.out | with_reducible exact blkal K14_p0.out _ | with_reducible exact blkal (blkal K14_p0.out _) _ | exact K14_p0.out | exact blknew _ _ | exact blknew' _ _ _ (by simp) | with_reducible refine blkal ?_ _ | with_reducible refine blkdrew ?_)))
        have K15_p1 : Hid (w15.heap[w.heap.size + 1]? = some (.cells #[.int .i64 b0, .int .i64 b1] 29 (0, 0))) := Lib.hid ((hC.2.2.2.2 _ (by first | omega | (simp <;> omega)) (fun hm => by first | (have := N15 _ hm; omega))).trans (by repeat (first | with_reducible exact K14_p1.out | with_reducible exact blkal K14_p1.out _ | with_reducible exact blkal (blkal K14_p1.out _) _ | exact K14_p1.out | exact blknew _ _ | exact blknew' _ _ _ (by simp) | with_reducible refine blkal ?_ _ | with_reducible refine blkdrew ?_)))
        have K15_s6 : Hid (w15.heap[g6]? = some (.cells #[.int .i64 r00, .int .u32 r01, .int .i64 r02, .slice A4_03 R03.length cap4_03] 34 (0, 0))) := Lib.hid ((hC.2.2.2.2 _ (by first | omega | (simp <;> omega)) (fun hm => by first | (have := N15 _ hm; omega))).trans (by repeat (first | with_reducible exact K14_s6.out | with_reducible exact blkal K14_s6.out _ | with_reducible exact blkal (blkal K14_s6.out _) _ | exact K14_s6.out | exact blknew _ _ | exact blknew' _ _ _ (by simp) | with_reducible refine blkal ?_ _ | with_reducible refine blkdrew ?_)))
        have K15_s8 : Hid (w15.heap[w6.heap.size]? = some (.cells #[.int .i64 a0, .int .u32 a1, .int .i64 a2, .slice A6 ax3.length cap6] 34 (0, 0))) := Lib.hid ((hC.2.2.2.2 _ (by first | omega | (simp <;> omega)) (fun hm => by first | (have := N15 _ hm; omega))).trans (by repeat (first | with_reducible exact K14_s8.out | with_reducible exact blkal K14_s8.out _ | with_reducible exact blkal (blkal K14_s8.out _) _ | exact K14_s8.out | exact blknew _ _ | exact blknew' _ _ _ (by simp) | with_reducible refine blkal ?_ _ | with_reducible refine blkdrew ?_)))
        have K15_s9 : Hid (w15.heap[g9]? = some (.cells #[.int .i64 r00, .int .u32 r01, .int .i64 r02, .slice A8_03 R03.length cap8_03] 34 (0, 0))) := Lib.hid ((hC.2.2.2.2 _ (by first | omega | (simp <;> omega)) (fun hm => by first | (have := N15 _ hm; omega) | exact d_8_03_s9.out _ hm rfl)).trans (by repeat (first | with_reducible exact K14_s9.out | with_reducible exact blkal K14_s9.out _ | with_reducible exact blkal (blkal K14_s9.out _) _ | exact K14_s9.out | exact blknew _ _ | exact blknew' _ _ _ (by simp) | with_reducible refine blkal ?_ _ | with_reducible refine blkdrew ?_)))
        have O15_4_03 := Lib.hid (Own.bchgR O14_4_03.out (by repeat (first | with_reducible exact Below.refl _ _ | with_reducible refine bal ?_ _ | with_reducible refine bdrew1 ?_)) hC (fun b g1 g2 => by have := L5_4_03.out b g1; have := N15 b g2; omega))
        have O15_6 := Lib.hid (Own.bchgR O14_6.out (by repeat (first | with_reducible exact Below.refl _ _ | with_reducible refine bal ?_ _ | with_reducible refine bdrew1 ?_)) hC (fun b g1 g2 => by have := L6_6.out b g1; have := N15 b g2; omega))
        have O15_8_03 := Lib.hid hO
        have O15_11 := Lib.hid (Own.bchgR O14_11.out (by repeat (first | with_reducible exact Below.refl _ _ | with_reducible refine bal ?_ _ | with_reducible refine bdrew1 ?_)) hC (fun b g1 g2 => by have := L11_11.out b g1; have := N15 b g2; omega))
        have B15 : Hid (Below w.heap.size w w15) := Lib.hid (Below.trans (by repeat (first | with_reducible exact B14.out | with_reducible refine bal ?_ _ | with_reducible refine bdrew1 ?_)) (hC.below (B := w.heap.size) (fun b g2 => by have := N15 b g2; omega) (by first | omega | (simp; omega))))
        clear O14_4_03 O14_6 O14_8_03 O14_11 K14_p0 K14_p1 K14_s6 K14_s8 K14_s9 B14 hC N15 c14_p00 c14_p01 c14_p02 c14_p03 y14_p0 c14_p10 c14_p11 y14_p1 c14_s60 c14_s61 c14_s62 c14_s63 y14_s6 c14_s80 c14_s81 c14_s82 c14_s83 y14_s8 c14_s90 c14_s91 c14_s92 c14_s93 y14_s9
        obtain ⟨c15_p00, c15_p01, c15_p02, c15_p03⟩ := blkc4 K15_p0.out
        have y15_p0 : w.heap.size < w15.heap.size := blklt K15_p0.out
        obtain ⟨c15_p10, c15_p11⟩ := blkc2 K15_p1.out
        have y15_p1 : w.heap.size + 1 < w15.heap.size := blklt K15_p1.out
        obtain ⟨c15_s60, c15_s61, c15_s62, c15_s63⟩ := blkc4 K15_s6.out
        have y15_s6 : g6 < w15.heap.size := blklt K15_s6.out
        obtain ⟨c15_s80, c15_s81, c15_s82, c15_s83⟩ := blkc4 K15_s8.out
        have y15_s8 : w6.heap.size < w15.heap.size := blklt K15_s8.out
        obtain ⟨c15_s90, c15_s91, c15_s92, c15_s93⟩ := blkc4 K15_s9.out
        have y15_s9 : g9 < w15.heap.size := blklt K15_s9.out
        have hk15 : (0 : Int) ≤ 1 + 5 * (R03.length : Int) := (by omega)
        have hq15 : ((1 + 5 * (R03.length : Int)) != (1 + 5 * (R03.length : Int))) = false := (by simp)
        go_wp2_with fail
        refine Calls.mono (heldFlagSum_any _ _ _ _ R03.length _ _ (O15_8_03.out.lst.below (by repeat (first | with_reducible exact Below.refl _ _ | with_reducible refine bal ?_ _ | with_reducible refine bdrew1 ?_))) (by omega) (by omega)) ?_
        rintro e0 w16 ⟨rfl, hb⟩
        have z16 : w15.heap.size + 0 ≤ w16.heap.size := (by have := hb.size; (try simp at this); omega)
        have K16_p0 : Hid (w16.heap[w.heap.size]? = some (.cells #[.int .i64 a0, .int .u32 a1, .int .i64 a2, .slice A_av3 ax3.length cap_av3] 27 (0, 0))) := Lib.hid ((hb.block _ (by first | omega | (simp <;> omega))).trans (by repeat (first | with_reducible exact K15_p0.out | with_reducible exact blkal K15_p0.out _ | with_reducible exact blkal (blkal K15_p0.out _) _ | exact K15_p0.out | exact blknew _ _ | exact blknew' _ _ _ (by simp) | with_reducible refine blkal ?_ _ | with_reducible refine blkdrew ?_)))
        have K16_p1 : Hid (w16.heap[w.heap.size + 1]? = some (.cells #[.int .i64 b0, .int .i64 b1] 29 (0, 0))) := Lib.hid ((hb.block _ (by first | omega | (simp <;> omega))).trans (by repeat (first | with_reducible exact K15_p1.out | with_reducible exact blkal K15_p1.out _ | with_reducible exact blkal (blkal K15_p1.out _) _ | exact K15_p1.out | exact blknew _ _ | exact blknew' _ _ _ (by simp) | with_reducible refine blkal ?_ _ | with_reducible refine blkdrew ?_)))
        have K16_s6 : Hid (w16.heap[g6]? = some (.cells #[.int .i64 r00, .int .u32 r01, .int .i64 r02, .slice A4_03 R03.length cap4_03] 34 (0, 0))) := Lib.hid ((hb.block _ (by first | omega | (simp <;> omega))).trans (by repeat (first | with_reducible exact K15_s6.out | with_reducible exact blkal K15_s6.out _ | with_reducible exact blkal (blkal K15_s6.out _) _ | exact K15_s6.out | exact blknew _ _ | exact blknew' _ _ _ (by simp) | with_reducible refine blkal ?_ _ | with_reducible refine blkdrew ?_)))
        have K16_s8 : Hid (w16.heap[w6.heap.size]? = some (.cells #[.int .i64 a0, .int .u32 a1, .int .i64 a2, .slice A6 ax3.length cap6] 34 (0, 0))) := Lib.hid ((hb.block _ (by first | omega | (simp <;> omega))).trans (by repeat (first | with_reducible exact K15_s8.out | with_reducible exact blkal K15_s8.out _ | with_reducible exact blkal (blkal K15_s8.out _) _ | exact K15_s8.out | exact blknew _ _ | exact blknew' _ _ _ (by simp) | with_reducible refine blkal ?_ _ | with_reducible refine blkdrew ?_)))
        have K16_s9 : Hid (w16.heap[g9]? = some (.cells #[.int .i64 r00, .int .u32 r01, .int .i64 r02, .slice A8_03 R03.length cap8_03] 34 (0, 0))) := Lib.hid ((hb.block _ (by first | omega | (simp <;> omega))).trans (by repeat (first | with_reducible exact K15_s9.out | with_reducible exact blkal K15_s9.out _ | with_reducible exact blkal (blkal K15_s9.out _) _ | exact K15_s9.out | exact blknew _ _ | exact blknew' _ _ _ (by simp) | with_reducible refine blkal ?_ _ | with_reducible refine blkdrew ?_)))
        have O16_4_03 := Lib.hid (O15_4_03.out.below (Nat.le_refl _) (bthen (by repeat (first | with_reducible exact Below.refl _ _ | with_reducible refine bal ?_ _ | with_reducible refine bdrew1 ?_)) hb))
        have O16_6 := Lib.hid (O15_6.out.below (Nat.le_refl _) (bthen (by repeat (first | with_reducible exact Below.refl _ _ | with_reducible refine bal ?_ _ | with_reducible refine bdrew1 ?_)) hb))
        have O16_8_03 := Lib.hid (O15_8_03.out.below (Nat.le_refl _) (bthen (by repeat (first | with_reducible exact Below.refl _ _ | with_reducible refine bal ?_ _ | with_reducible refine bdrew1 ?_)) hb))
        have O16_11 := Lib.hid (O15_11.out.below (Nat.le_refl _) (bthen (by repeat (first | with_reducible exact Below.refl _ _ | with_reducible refine bal ?_ _ | with_reducible refine bdrew1 ?_)) hb))
        have B16 : Hid (Below w.heap.size w w16) := Lib.hid (bthen (by repeat (first | with_reducible exact B15.out | with_reducible refine bal ?_ _ | with_reducible refine bdrew1 ?_)) hb)
        clear O15_4_03 O15_6 O15_8_03 O15_11 K15_p0 K15_p1 K15_s6 K15_s8 K15_s9 B15 hb c15_p00 c15_p01 c15_p02 c15_p03 y15_p0 c15_p10 c15_p11 y15_p1 c15_s60 c15_s61 c15_s62 c15_s63 y15_s6 c15_s80 c15_s81 c15_s82 c15_s83 y15_s8 c15_s90 c15_s91 c15_s92 c15_s93 y15_s9
        obtain ⟨c16_p00, c16_p01, c16_p02, c16_p03⟩ := blkc4 K16_p0.out
        have y16_p0 : w.heap.size < w16.heap.size := blklt K16_p0.out
        obtain ⟨c16_p10, c16_p11⟩ := blkc2 K16_p1.out
        have y16_p1 : w.heap.size + 1 < w16.heap.size := blklt K16_p1.out
        obtain ⟨c16_s60, c16_s61, c16_s62, c16_s63⟩ := blkc4 K16_s6.out
        have y16_s6 : g6 < w16.heap.size := blklt K16_s6.out
        obtain ⟨c16_s80, c16_s81, c16_s82, c16_s83⟩ := blkc4 K16_s8.out
        have y16_s8 : w6.heap.size < w16.heap.size := blklt K16_s8.out
        obtain ⟨c16_s90, c16_s91, c16_s92, c16_s93⟩ := blkc4 K16_s9.out
        have y16_s9 : g9 < w16.heap.size := blklt K16_s9.out
        go_upto_region 24 with fail
        go_cut [14, 15] (fun s14 s15 wx => ∃ (g14 : Nat) (A19_03 : Option Addr) (cap19_03 : Nat) (F19_03 : List Nat), s14 = .pointer (some ⟨g14, 0, none⟩) ∧ s15 = .int .i64 r10 ∧ Below w.heap.size w wx ∧ w16.heap.size + 0 ≤ wx.heap.size ∧ wx.heap[w.heap.size]? = some (.cells #[.int .i64 a0, .int .u32 a1, .int .i64 a2, .slice A_av3 ax3.length cap_av3] 27 (0, 0)) ∧ wx.heap[w.heap.size + 1]? = some (.cells #[.int .i64 b0, .int .i64 b1] 29 (0, 0)) ∧ wx.heap[g6]? = some (.cells #[.int .i64 r00, .int .u32 r01, .int .i64 r02, .slice A4_03 R03.length cap4_03] 34 (0, 0)) ∧ wx.heap[w6.heap.size]? = some (.cells #[.int .i64 a0, .int .u32 a1, .int .i64 a2, .slice A6 ax3.length cap6] 34 (0, 0)) ∧ wx.heap[g9]? = some (.cells #[.int .i64 r00, .int .u32 r01, .int .i64 r02, .slice A8_03 R03.length cap8_03] 34 (0, 0)) ∧ (w16.heap.size ≤ g14 ∧ g14 < wx.heap.size) ∧ wx.heap[g14]? = some (.cells #[.int .i64 r00, .int .u32 r01, .int .i64 r02, .slice A19_03 R03.length cap19_03] 34 (0, 0)) ∧ Hid (Own shTerm (w1.heap.size + 0) wx R03 (.slice A4_03 R03.length cap4_03) F4_03) ∧ Hid (Own shTerm _ wx (mkTermS (1) ax3.length) (.slice A6 ax3.length cap6) F6) ∧ Hid (Own shTerm (w6.heap.size + 1) wx (mkTermS (1) R03.length) (.slice A8_03 R03.length cap8_03) F8_03) ∧ Hid (Own shTerm _ wx ax3 (.slice A11 ax3.length cap11) F11) ∧ Hid (Own shTerm (w16.heap.size + 0) wx R03 (.slice A19_03 R03.length cap19_03) F19_03) ∧ Hid (∀ b ∈ F19_03, b ≠ g14))
        case first =>
          go_region_held3 (fun w' => w'.cell? ⟨w.heap.size, 0, none⟩ = some (.int .i64 a0) ∧ w'.cell? ⟨w.heap.size, 1, none⟩ = some (.int .u32 a1) ∧ w'.cell? ⟨w.heap.size, 2, none⟩ = some (.int .i64 a2) ∧ w'.cell? ⟨w.heap.size, 3, none⟩ = some (.slice A_av3 ax3.length cap_av3) ∧ w'.cell? ⟨w.heap.size + 1, 0, none⟩ = some (.int .i64 b0) ∧ w'.cell? ⟨w.heap.size + 1, 1, none⟩ = some (.int .i64 b1)) (simp [*, go_sem]) (first | (go_at_call 7; refine Calls.mono (toFlagSum_any _ (a0) (a1) (a2) ax3 _ (ah3.below (bthen B16.out belA)) (by omega)) ?_; rintro e0 w1 ⟨A17, cap17, F17, rfl, hO17, hb⟩; obtain ⟨X17, m17, rfl⟩ := plsOf hb; clear hb; (try simp only [pls_pls, drew_pls, drewN_pls, pls_drew, pls_drewN] at hO17); have hO17 := Lib.hid hO17) | (go_at_call 8; refine Calls.mono (toFraction_any (b0) (b1) _) ?_; rintro e0 w1 ⟨rfl, hb⟩; obtain ⟨X18, m18, rfl⟩ := plsOf hb; clear hb) | (go_at_call 9; refine Calls.mono (HI.out _ _ (hO17.out.lst.below belA) (by omega)) ?_; rintro e0 w1 ⟨A19_03, cap19_03, F19_03, rfl, hO19_03, hb⟩; obtain ⟨X19, m19, rfl⟩ := plsOf hb; clear hb; (try simp only [pls_pls, drew_pls, drewN_pls, pls_drew, pls_drewN] at hO19_03); have hO19_03 := Lib.hid hO19_03))
          all_goals (go_wp2_with fail; go_meet; exact ⟨_, A19_03, cap19_03, F19_03, rfl, rfl, (bthen B16.out belA), (by simp <;> omega), (by have kk := K16_p0.out; exact blkA), (by have kk := K16_p1.out; exact blkA), (by have kk := K16_s6.out; exact blkA), (by have kk := K16_s8.out; exact blkA), (by have kk := K16_s9.out; exact blkA), (by simp <;> omega), blkA, (Lib.hid (O16_4_03.out.below (Nat.le_refl _) belA)), (Lib.hid (O16_6.out.below (Nat.le_refl _) belA)), (Lib.hid (O16_8_03.out.below (Nat.le_refl _) belA)), (Lib.hid (O16_11.out.below (Nat.le_refl _) belA)), (by refine Lib.hid (Own.move hO19_03.out ?_ ?_); (focus (simp <;> omega)); (first | (with_reducible refine swBScaleSum ?_ ?_) | exact fun b _ hl => Below.block belA b hl); all_goals (first | rfl | (simp only [Array.append_assoc]; done) | (simp <;> omega))), (Lib.hid (fun b hb => by have h1 := hO19_03.out.ge b hb; have h2 := hO19_03.out.lt b hb; simp at h1 h2; omega))⟩)
        case rest =>
          obtain ⟨g14, A19_03, cap19_03, F19_03, rfl, rfl, hB, z20, k_p0, k_p1, k_s6, k_s8, k_s9, h_g14, k_s14, o_4_03, o_6, o_8_03, o_11, n_19_03, d_19_03_s14⟩ := hcut
          obtain ⟨w20, rfl⟩ : ∃ x, x = wc := ⟨_, rfl⟩
          have B20 := Lib.hid hB
          have K20_p0 := Lib.hid k_p0
          have K20_p1 := Lib.hid k_p1
          have K20_s6 := Lib.hid k_s6
          have K20_s8 := Lib.hid k_s8
          have K20_s9 := Lib.hid k_s9
          have K20_s14 := Lib.hid k_s14
          clear hB c16_p00 c16_p01 c16_p02 c16_p03 y16_p0 c16_p10 c16_p11 y16_p1 c16_s60 c16_s61 c16_s62 c16_s63 y16_s6 c16_s80 c16_s81 c16_s82 c16_s83 y16_s8 c16_s90 c16_s91 c16_s92 c16_s93 y16_s9 K16_p0 K16_p1 K16_s6 K16_s8 K16_s9 O16_4_03 O16_6 O16_8_03 O16_11 B16 k_p0 k_p1 k_s6 k_s8 k_s9 k_s14
          obtain ⟨c20_p00, c20_p01, c20_p02, c20_p03⟩ := blkc4 K20_p0.out
          have y20_p0 : w.heap.size < w20.heap.size := blklt K20_p0.out
          obtain ⟨c20_p10, c20_p11⟩ := blkc2 K20_p1.out
          have y20_p1 : w.heap.size + 1 < w20.heap.size := blklt K20_p1.out
          obtain ⟨c20_s60, c20_s61, c20_s62, c20_s63⟩ := blkc4 K20_s6.out
          have y20_s6 : g6 < w20.heap.size := blklt K20_s6.out
          obtain ⟨c20_s80, c20_s81, c20_s82, c20_s83⟩ := blkc4 K20_s8.out
          have y20_s8 : w6.heap.size < w20.heap.size := blklt K20_s8.out
          obtain ⟨c20_s90, c20_s91, c20_s92, c20_s93⟩ := blkc4 K20_s9.out
          have y20_s9 : g9 < w20.heap.size := blklt K20_s9.out
          obtain ⟨c20_s140, c20_s141, c20_s142, c20_s143⟩ := blkc4 K20_s14.out
          have y20_s14 : g14 < w20.heap.size := blklt K20_s14.out
          obtain ⟨hl_g14, hu_g14⟩ := h_g14
          have L20_19_03 : Hid (∀ b ∈ F19_03, w16.heap.size + 0 ≤ b ∧ b < w20.heap.size) := Lib.hid (fun b hm => ⟨by have := n_19_03.out.ge b hm; (try simp at this); omega, n_19_03.out.lt b hm⟩)
          have O20_4_03 := o_4_03
          clear o_4_03
          have O20_6 := o_6
          clear o_6
          have O20_8_03 := o_8_03
          clear o_8_03
          have O20_11 := o_11
          clear o_11
          have O20_19_03 := n_19_03
          clear n_19_03
          go_wp2_with fail
          refine Calls.mono (eqFlagSum_same _ _ _ _ R03 _ _ (O20_19_03.out.lst.below (by repeat (first | with_reducible exact Below.refl _ _ | with_reducible refine bal ?_ _ | with_reducible refine bdrew1 ?_))) (O20_4_03.out.lst.below (by repeat (first | with_reducible exact Below.refl _ _ | with_reducible refine bal ?_ _ | with_reducible refine bdrew1 ?_))) (by omega)) ?_
          rintro e0 w21 ⟨rfl, hb⟩
          have z21 : w20.heap.size + 0 ≤ w21.heap.size := (by have := hb.size; (try simp at this); omega)
          have K21_p0 : Hid (w21.heap[w.heap.size]? = some (.cells #[.int .i64 a0, .int .u32 a1, .int .i64 a2, .slice A_av3 ax3.length cap_av3] 27 (0, 0))) := Lib.hid ((hb.block _ (by first | omega | (simp <;> omega))).trans (by repeat (first | with_reducible exact K20_p0.out | with_reducible exact blkal K20_p0.out _ | with_reducible exact blkal (blkal K20_p0.out _) _ | exact K20_p0.out | exact blknew _ _ | exact blknew' _ _ _ (by simp) | with_reducible refine blkal ?_ _ | with_reducible refine blkdrew ?_)))
          have K21_p1 : Hid (w21.heap[w.heap.size + 1]? = some (.cells #[.int .i64 b0, .int .i64 b1] 29 (0, 0))) := Lib.hid ((hb.block _ (by first | omega | (simp <;> omega))).trans (by repeat (first | with_reducible exact K20_p1.out | with_reducible exact blkal K20_p1.out _ | with_reducible exact blkal (blkal K20_p1.out _) _ | exact K20_p1.out | exact blknew _ _ | exact blknew' _ _ _ (by simp) | with_reducible refine blkal ?_ _ | with_reducible refine blkdrew ?_)))
          have K21_s6 : Hid (w21.heap[g6]? = some (.cells #[.int .i64 r00, .int .u32 r01, .int .i64 r02, .slice A4_03 R03.length cap4_03] 34 (0, 0))) := Lib.hid ((hb.block _ (by first | omega | (simp <;> omega))).trans (by repeat (first | with_reducible exact K20_s6.out | with_reducible exact blkal K20_s6.out _ | with_reducible exact blkal (blkal K20_s6.out _) _ | exact K20_s6.out | exact blknew _ _ | exact blknew' _ _ _ (by simp) | with_reducible refine blkal ?_ _ | with_reducible refine blkdrew ?_)))
          have K21_s8 : Hid (w21.heap[w6.heap.size]? = some (.cells #[.int .i64 a0, .int .u32 a1, .int .i64 a2, .slice A6 ax3.length cap6] 34 (0, 0))) := Lib.hid ((hb.block _ (by first | omega | (simp <;> omega))).trans (by repeat (first | with_reducible exact K20_s8.out | with_reducible exact blkal K20_s8.out _ | with_reducible exact blkal (blkal K20_s8.out _) _ | exact K20_s8.out | exact blknew _ _ | exact blknew' _ _ _ (by simp) | with_reducible refine blkal ?_ _ | with_reducible refine blkdrew ?_)))
          have K21_s9 : Hid (w21.heap[g9]? = some (.cells #[.int .i64 r00, .int .u32 r01, .int .i64 r02, .slice A8_03 R03.length cap8_03] 34 (0, 0))) := Lib.hid ((hb.block _ (by first | omega | (simp <;> omega))).trans (by repeat (first | with_reducible exact K20_s9.out | with_reducible exact blkal K20_s9.out _ | with_reducible exact blkal (blkal K20_s9.out _) _ | exact K20_s9.out | exact blknew _ _ | exact blknew' _ _ _ (by simp) | with_reducible refine blkal ?_ _ | with_reducible refine blkdrew ?_)))
          have K21_s14 : Hid (w21.heap[g14]? = some (.cells #[.int .i64 r00, .int .u32 r01, .int .i64 r02, .slice A19_03 R03.length cap19_03] 34 (0, 0))) := Lib.hid ((hb.block _ (by first | omega | (simp <;> omega))).trans (by repeat (first | with_reducible exact K20_s14.out | with_reducible exact blkal K20_s14.out _ | with_reducible exact blkal (blkal K20_s14.out _) _ | exact K20_s14.out | exact blknew _ _ | exact blknew' _ _ _ (by simp) | with_reducible refine blkal ?_ _ | with_reducible refine blkdrew ?_)))
          have O21_4_03 := Lib.hid (O20_4_03.out.below (Nat.le_refl _) (bthen (by repeat (first | with_reducible exact Below.refl _ _ | with_reducible refine bal ?_ _ | with_reducible refine bdrew1 ?_)) hb))
          have O21_6 := Lib.hid (O20_6.out.below (Nat.le_refl _) (bthen (by repeat (first | with_reducible exact Below.refl _ _ | with_reducible refine bal ?_ _ | with_reducible refine bdrew1 ?_)) hb))
          have O21_8_03 := Lib.hid (O20_8_03.out.below (Nat.le_refl _) (bthen (by repeat (first | with_reducible exact Below.refl _ _ | with_reducible refine bal ?_ _ | with_reducible refine bdrew1 ?_)) hb))
          have O21_11 := Lib.hid (O20_11.out.below (Nat.le_refl _) (bthen (by repeat (first | with_reducible exact Below.refl _ _ | with_reducible refine bal ?_ _ | with_reducible refine bdrew1 ?_)) hb))
          have O21_19_03 := Lib.hid (O20_19_03.out.below (Nat.le_refl _) (bthen (by repeat (first | with_reducible exact Below.refl _ _ | with_reducible refine bal ?_ _ | with_reducible refine bdrew1 ?_)) hb))
          have B21 : Hid (Below w.heap.size w w21) := Lib.hid (bthen (by repeat (first | with_reducible exact B20.out | with_reducible refine bal ?_ _ | with_reducible refine bdrew1 ?_)) hb)
          clear O20_4_03 O20_6 O20_8_03 O20_11 O20_19_03 K20_p0 K20_p1 K20_s6 K20_s8 K20_s9 K20_s14 B20 hb c20_p00 c20_p01 c20_p02 c20_p03 y20_p0 c20_p10 c20_p11 y20_p1 c20_s60 c20_s61 c20_s62 c20_s63 y20_s6 c20_s80 c20_s81 c20_s82 c20_s83 y20_s8 c20_s90 c20_s91 c20_s92 c20_s93 y20_s9 c20_s140 c20_s141 c20_s142 c20_s143 y20_s14
          obtain ⟨c21_p00, c21_p01, c21_p02, c21_p03⟩ := blkc4 K21_p0.out
          have y21_p0 : w.heap.size < w21.heap.size := blklt K21_p0.out
          obtain ⟨c21_p10, c21_p11⟩ := blkc2 K21_p1.out
          have y21_p1 : w.heap.size + 1 < w21.heap.size := blklt K21_p1.out
          obtain ⟨c21_s60, c21_s61, c21_s62, c21_s63⟩ := blkc4 K21_s6.out
          have y21_s6 : g6 < w21.heap.size := blklt K21_s6.out
          obtain ⟨c21_s80, c21_s81, c21_s82, c21_s83⟩ := blkc4 K21_s8.out
          have y21_s8 : w6.heap.size < w21.heap.size := blklt K21_s8.out
          obtain ⟨c21_s90, c21_s91, c21_s92, c21_s93⟩ := blkc4 K21_s9.out
          have y21_s9 : g9 < w21.heap.size := blklt K21_s9.out
          obtain ⟨c21_s140, c21_s141, c21_s142, c21_s143⟩ := blkc4 K21_s14.out
          have y21_s14 : g14 < w21.heap.size := blklt K21_s14.out
          go_wp2_with fail
          refine Calls.mono (heldFlagSum_any _ _ _ _ R03.length _ _ (O21_8_03.out.lst.below (by repeat (first | with_reducible exact Below.refl _ _ | with_reducible refine bal ?_ _ | with_reducible refine bdrew1 ?_))) (by omega) (by omega)) ?_
          rintro e0 w22 ⟨rfl, hb⟩
          have z22 : w21.heap.size + 0 ≤ w22.heap.size := (by have := hb.size; (try simp at this); omega)
          have K22_p0 : Hid (w22.heap[w.heap.size]? = some (.cells #[.int .i64 a0, .int .u32 a1, .int .i64 a2, .slice A_av3 ax3.length cap_av3] 27 (0, 0))) := Lib.hid ((hb.block _ (by first | omega | (simp <;> omega))).trans (by repeat (first | with_reducible exact K21_p0.out | with_reducible exact blkal K21_p0.out _ | with_reducible exact blkal (blkal K21_p0.out _) _ | exact K21_p0.out | exact blknew _ _ | exact blknew' _ _ _ (by simp) | with_reducible refine blkal ?_ _ | with_reducible refine blkdrew ?_)))
          have K22_p1 : Hid (w22.heap[w.heap.size + 1]? = some (.cells #[.int .i64 b0, .int .i64 b1] 29 (0, 0))) := Lib.hid ((hb.block _ (by first | omega | (simp <;> omega))).trans (by repeat (first | with_reducible exact K21_p1.out | with_reducible exact blkal K21_p1.out _ | with_reducible exact blkal (blkal K21_p1.out _) _ | exact K21_p1.out | exact blknew _ _ | exact blknew' _ _ _ (by simp) | with_reducible refine blkal ?_ _ | with_reducible refine blkdrew ?_)))
          have K22_s6 : Hid (w22.heap[g6]? = some (.cells #[.int .i64 r00, .int .u32 r01, .int .i64 r02, .slice A4_03 R03.length cap4_03] 34 (0, 0))) := Lib.hid ((hb.block _ (by first | omega | (simp <;> omega))).trans (by repeat (first | with_reducible exact K21_s6.out | with_reducible exact blkal K21_s6.out _ | with_reducible exact blkal (blkal K21_s6.out _) _ | exact K21_s6.out | exact blknew _ _ | exact blknew' _ _ _ (by simp) | with_reducible refine blkal ?_ _ | with_reducible refine blkdrew ?_)))
          have K22_s8 : Hid (w22.heap[w6.heap.size]? = some (.cells #[.int .i64 a0, .int .u32 a1, .int .i64 a2, .slice A6 ax3.length cap6] 34 (0, 0))) := Lib.hid ((hb.block _ (by first | omega | (simp <;> omega))).trans (by repeat (first | with_reducible exact K21_s8.out | with_reducible exact blkal K21_s8.out _ | with_reducible exact blkal (blkal K21_s8.out _) _ | exact K21_s8.out | exact blknew _ _ | exact blknew' _ _ _ (by simp) | with_reducible refine blkal ?_ _ | with_reducible refine blkdrew ?_)))
          have K22_s9 : Hid (w22.heap[g9]? = some (.cells #[.int .i64 r00, .int .u32 r01, .int .i64 r02, .slice A8_03 R03.length cap8_03] 34 (0, 0))) := Lib.hid ((hb.block _ (by first | omega | (simp <;> omega))).trans (by repeat (first | with_reducible exact K21_s9.out | with_reducible exact blkal K21_s9.out _ | with_reducible exact blkal (blkal K21_s9.out _) _ | exact K21_s9.out | exact blknew _ _ | exact blknew' _ _ _ (by simp) | with_reducible refine blkal ?_ _ | with_reducible refine blkdrew ?_)))
          have K22_s14 : Hid (w22.heap[g14]? = some (.cells #[.int .i64 r00, .int .u32 r01, .int .i64 r02, .slice A19_03 R03.length cap19_03] 34 (0, 0))) := Lib.hid ((hb.block _ (by first | omega | (simp <;> omega))).trans (by repeat (first | with_reducible exact K21_s14.out | with_reducible exact blkal K21_s14.out _ | with_reducible exact blkal (blkal K21_s14.out _) _ | exact K21_s14.out | exact blknew _ _ | exact blknew' _ _ _ (by simp) | with_reducible refine blkal ?_ _ | with_reducible refine blkdrew ?_)))
          have O22_4_03 := Lib.hid (O21_4_03.out.below (Nat.le_refl _) (bthen (by repeat (first | with_reducible exact Below.refl _ _ | with_reducible refine bal ?_ _ | with_reducible refine bdrew1 ?_)) hb))
          have O22_6 := Lib.hid (O21_6.out.below (Nat.le_refl _) (bthen (by repeat (first | with_reducible exact Below.refl _ _ | with_reducible refine bal ?_ _ | with_reducible refine bdrew1 ?_)) hb))
          have O22_8_03 := Lib.hid (O21_8_03.out.below (Nat.le_refl _) (bthen (by repeat (first | with_reducible exact Below.refl _ _ | with_reducible refine bal ?_ _ | with_reducible refine bdrew1 ?_)) hb))
          have O22_11 := Lib.hid (O21_11.out.below (Nat.le_refl _) (bthen (by repeat (first | with_reducible exact Below.refl _ _ | with_reducible refine bal ?_ _ | with_reducible refine bdrew1 ?_)) hb))
          have O22_19_03 := Lib.hid (O21_19_03.out.below (Nat.le_refl _) (bthen (by repeat (first | with_reducible exact Below.refl _ _ | with_reducible refine bal ?_ _ | with_reducible refine bdrew1 ?_)) hb))
          have B22 : Hid (Below w.heap.size w w22) := Lib.hid (bthen (by repeat (first | with_reducible exact B21.out | with_reducible refine bal ?_ _ | with_reducible refine bdrew1 ?_)) hb)
          clear O21_4_03 O21_6 O21_8_03 O21_11 O21_19_03 K21_p0 K21_p1 K21_s6 K21_s8 K21_s9 K21_s14 B21 hb c21_p00 c21_p01 c21_p02 c21_p03 y21_p0 c21_p10 c21_p11 y21_p1 c21_s60 c21_s61 c21_s62 c21_s63 y21_s6 c21_s80 c21_s81 c21_s82 c21_s83 y21_s8 c21_s90 c21_s91 c21_s92 c21_s93 y21_s9 c21_s140 c21_s141 c21_s142 c21_s143 y21_s14
          obtain ⟨c22_p00, c22_p01, c22_p02, c22_p03⟩ := blkc4 K22_p0.out
          have y22_p0 : w.heap.size < w22.heap.size := blklt K22_p0.out
          obtain ⟨c22_p10, c22_p11⟩ := blkc2 K22_p1.out
          have y22_p1 : w.heap.size + 1 < w22.heap.size := blklt K22_p1.out
          obtain ⟨c22_s60, c22_s61, c22_s62, c22_s63⟩ := blkc4 K22_s6.out
          have y22_s6 : g6 < w22.heap.size := blklt K22_s6.out
          obtain ⟨c22_s80, c22_s81, c22_s82, c22_s83⟩ := blkc4 K22_s8.out
          have y22_s8 : w6.heap.size < w22.heap.size := blklt K22_s8.out
          obtain ⟨c22_s90, c22_s91, c22_s92, c22_s93⟩ := blkc4 K22_s9.out
          have y22_s9 : g9 < w22.heap.size := blklt K22_s9.out
          obtain ⟨c22_s140, c22_s141, c22_s142, c22_s143⟩ := blkc4 K22_s14.out
          have y22_s14 : g14 < w22.heap.size := blklt K22_s14.out
          go_wp2_with fail
          exact bodyPost_ret (v := .bool true) (by simp [results, Try.results3, go_sem]) rfl ⟨rfl, (by first | exact B22.out | exact bal B22.out _ | exact bal (bal B22.out _) _)⟩
end Go.Proofs.Ytpcjinbbgnmchaa

/- The walk of FnExactLeastValue, with what both sides return as hypotheses. -/
import Derived.Test.YtkfjlimlodbcgaaGreatSl
import Derived.Test.YtkfjlimlodbcgaaGreatTSum
namespace Go.Proofs.YtkfjlimlodbcgaaGreat
open Go.ChangeShapes Go.WideShapes Go.ChangeAt Go.RowKit
set_option linter.unusedVariables false
set_option linter.unusedSimpArgs false
attribute [local irreducible] Calls
set_option maxHeartbeats 4000000 in
set_option maxRecDepth 100000 in
theorem walkLeastValue (a0 : Int) (a1 : Int) (a2 : Int) (ax3 : List ((Int × (Int × Int)) × (Int × Int))) (av3 : Value) (bx0 : List (Int × Int)) (bv0 : Value) (r00 : Int) (r01 : Int) (r10 : Int) (r11 : Int) (r12 : Int) (r20 : Int) (HI0 : ∀ (W : World) (u0 u1 : Value), Lst shTerm W ax3 u0 → Lst shGr W bx0 u1 → ax3.length ≤ 1048576 → bx0.length ≤ 1048576 → Calls Tryz.prog 10 #[.agg #[.int .i64 a0, .int .u32 a1, .int .i64 a2, u0], u1] W fun e W' => e = .returned (.tuple #[.agg #[.int .i64 r00, .int .i64 r01], .agg #[.int .i64 r10, .int .i64 r11, .int .u32 r12], .int .i64 r20]) ∧ Below W.heap.size W W') (HS0 : ∀ (W : World) (u0 u1 : Value), Lst shTerm W ax3 u0 → Lst shGr W bx0 u1 → ax3.length ≤ 1048576 → bx0.length ≤ 1048576 → Calls Tryz.prog 7 #[.agg #[.int .i64 a0, .int .u32 a1, .int .i64 a2, u0], u1] W fun e W' => e = .returned (.tuple #[.agg #[.int .i64 r00, .int .i64 r01], .agg #[.int .i64 r10, .int .i64 r11, .int .u32 r12], .int .i64 r20]) ∧ Below W.heap.size W W') (w : World) (ah3 : Lst shTerm w ax3 av3) (bh0 : Lst shGr w bx0 bv0) :
    Calls Tryz.prog 3 #[.agg #[.int .i64 a0, .int .u32 a1, .int .i64 a2, av3], bv0] w fun e0 w' => e0 = .returned (.bool true) ∧ Below w.heap.size w w' := by
  obtain ⟨A_av3, cap_av3, rfl, fax3⟩ := formTerm ah3
  obtain ⟨A_bv0, cap_bv0, rfl, fbx0⟩ := formGraph bh0
  have HI := Lib.hid HI0
  have HS := Lib.hid HS0
  clear HI0 HS0
  have qr00 : (r00 != r00) = false := by simp
  have qr01 : (r01 != r01) = false := by simp
  have qr10 : (r10 != r10) = false := by simp
  have qr11 : (r11 != r11) = false := by simp
  have qr12 : (r12 != r12) = false := by simp
  have qr20 : (r20 != r20) = false := by simp
  have d0 := szI_bd (left := 1048576) (n := ax3.length) (by omega) (by omega) (by omega)
  by_cases g0 : szI (1048576) ax3.length < 0
  · go_enter Tryz.func3, Tryz.ntmps3
    go_wp2_with fail
    refine Calls.mono (szFlagSum_any _ _ _ _ ax3 _ _ (ah3.below (by (try with_reducible refine bsz ?_); repeat (first | with_reducible exact Below.refl _ _ | ((with_reducible refine bpre ?_); (try simp only [Array.append_assoc]); repeat (first | with_reducible exact Pre.refl _ | with_reducible exact Pre.base _ _ | with_reducible refine Pre.cons _ ?_)) | with_reducible assumption | ((with_reducible refine bsetr ?_); rfl) | with_reducible refine Below.setCell ?_ (by simp <;> omega) _ | with_reducible refine bpl ?_ _ _ | with_reducible refine bal ?_ _ | with_reducible refine bdrew1 ?_ | with_reducible refine bdrew ?_ _))) (by omega) (by omega)) ?_
    rintro e0 w1 ⟨rfl, hb⟩
    have z1 : w.heap.size + 1 ≤ w1.heap.size := (by have := hb.size; (try simp at this); omega)
    have K1_p0 : Hid (w1.heap[w.heap.size]? = some (.cells #[.int .i64 a0, .int .u32 a1, .int .i64 a2, .slice A_av3 ax3.length cap_av3] 27 (0, 0))) := Lib.hid ((hb.block _ (by first | omega | (simp <;> omega))).trans (by repeat (first | exact blknew _ _ | exact blknew' _ _ _ (by simp) | with_reducible refine blkal ?_ _ | with_reducible refine blkdrew ?_)))
    have B1 : Hid (Below w.heap.size w w1) := Lib.hid (bthen (by (try with_reducible refine bsz ?_); repeat (first | with_reducible exact Below.refl _ _ | ((with_reducible refine bpre ?_); (try simp only [Array.append_assoc]); repeat (first | with_reducible exact Pre.refl _ | with_reducible exact Pre.base _ _ | with_reducible refine Pre.cons _ ?_)) | with_reducible assumption | ((with_reducible refine bsetr ?_); rfl) | with_reducible refine Below.setCell ?_ (by simp <;> omega) _ | with_reducible refine bpl ?_ _ _ | with_reducible refine bal ?_ _ | with_reducible refine bdrew1 ?_ | with_reducible refine bdrew ?_ _)) hb)
    clear hb
    obtain ⟨c1_p00, c1_p01, c1_p02, c1_p03⟩ := blkc4 K1_p0.out
    have y1_p0 : w.heap.size < w1.heap.size := blklt K1_p0.out
    go_wp2_with fail
    exact bodyPost_ret (v := .bool true) (by simp [results, Tryz.results3, go_sem]) rfl ⟨rfl, (by first | exact B1.out | exact bal B1.out _ | exact bal (bal B1.out _) _)⟩
  · have lax3 : ax3.length ≤ 1048576 := (by have := szI_pos g0; omega)
    have d1 := szI_bd (left := szI (1048576) ax3.length) (n := bx0.length) (by omega) (by omega) (by omega)
    by_cases g1 : szI (szI (1048576) ax3.length) bx0.length < 0
    · go_enter Tryz.func3, Tryz.ntmps3
      go_wp2_with fail
      refine Calls.mono (szFlagSum_any _ _ _ _ ax3 _ _ (ah3.below (by (try with_reducible refine bsz ?_); repeat (first | with_reducible exact Below.refl _ _ | ((with_reducible refine bpre ?_); (try simp only [Array.append_assoc]); repeat (first | with_reducible exact Pre.refl _ | with_reducible exact Pre.base _ _ | with_reducible refine Pre.cons _ ?_)) | with_reducible assumption | ((with_reducible refine bsetr ?_); rfl) | with_reducible refine Below.setCell ?_ (by simp <;> omega) _ | with_reducible refine bpl ?_ _ _ | with_reducible refine bal ?_ _ | with_reducible refine bdrew1 ?_ | with_reducible refine bdrew ?_ _))) (by omega) (by omega)) ?_
      rintro e0 w1 ⟨rfl, hb⟩
      have z1 : w.heap.size + 1 ≤ w1.heap.size := (by have := hb.size; (try simp at this); omega)
      have K1_p0 : Hid (w1.heap[w.heap.size]? = some (.cells #[.int .i64 a0, .int .u32 a1, .int .i64 a2, .slice A_av3 ax3.length cap_av3] 27 (0, 0))) := Lib.hid ((hb.block _ (by first | omega | (simp <;> omega))).trans (by repeat (first | exact blknew _ _ | exact blknew' _ _ _ (by simp) | with_reducible refine blkal ?_ _ | with_reducible refine blkdrew ?_)))
      have B1 : Hid (Below w.heap.size w w1) := Lib.hid (bthen (by (try with_reducible refine bsz ?_); repeat (first | with_reducible exact Below.refl _ _ | ((with_reducible refine bpre ?_); (try simp only [Array.append_assoc]); repeat (first | with_reducible exact Pre.refl _ | with_reducible exact Pre.base _ _ | with_reducible refine Pre.cons _ ?_)) | with_reducible assumption | ((with_reducible refine bsetr ?_); rfl) | with_reducible refine Below.setCell ?_ (by simp <;> omega) _ | with_reducible refine bpl ?_ _ _ | with_reducible refine bal ?_ _ | with_reducible refine bdrew1 ?_ | with_reducible refine bdrew ?_ _)) hb)
      clear hb
      obtain ⟨c1_p00, c1_p01, c1_p02, c1_p03⟩ := blkc4 K1_p0.out
      have y1_p0 : w.heap.size < w1.heap.size := blklt K1_p0.out
      go_wp2_with fail
      refine Calls.mono (szGraphS_any _ _ _ _ _ (by omega) (by omega) fbx0.1 fbx0.2) ?_
      rintro e0 w2 ⟨rfl, rfl⟩
      go_wp2_with fail
      exact bodyPost_ret (v := .bool true) (by simp [results, Tryz.results3, go_sem]) rfl ⟨rfl, (by first | exact B1.out | exact bal B1.out _ | exact bal (bal B1.out _) _)⟩
    · have lbx0 : bx0.length ≤ 1048576 := (by have := szI_pos g1; omega)
      go_enter Tryz.func3, Tryz.ntmps3
      go_wp2_with fail
      refine Calls.mono (szFlagSum_any _ _ _ _ ax3 _ _ (ah3.below (by (try with_reducible refine bsz ?_); repeat (first | with_reducible exact Below.refl _ _ | ((with_reducible refine bpre ?_); (try simp only [Array.append_assoc]); repeat (first | with_reducible exact Pre.refl _ | with_reducible exact Pre.base _ _ | with_reducible refine Pre.cons _ ?_)) | with_reducible assumption | ((with_reducible refine bsetr ?_); rfl) | with_reducible refine Below.setCell ?_ (by simp <;> omega) _ | with_reducible refine bpl ?_ _ _ | with_reducible refine bal ?_ _ | with_reducible refine bdrew1 ?_ | with_reducible refine bdrew ?_ _))) (by omega) (by omega)) ?_
      rintro e0 w1 ⟨rfl, hb⟩
      have z1 : w.heap.size + 1 ≤ w1.heap.size := (by have := hb.size; (try simp at this); omega)
      have K1_p0 : Hid (w1.heap[w.heap.size]? = some (.cells #[.int .i64 a0, .int .u32 a1, .int .i64 a2, .slice A_av3 ax3.length cap_av3] 27 (0, 0))) := Lib.hid ((hb.block _ (by first | omega | (simp <;> omega))).trans (by repeat (first | exact blknew _ _ | exact blknew' _ _ _ (by simp) | with_reducible refine blkal ?_ _ | with_reducible refine blkdrew ?_)))
      have B1 : Hid (Below w.heap.size w w1) := Lib.hid (bthen (by (try with_reducible refine bsz ?_); repeat (first | with_reducible exact Below.refl _ _ | ((with_reducible refine bpre ?_); (try simp only [Array.append_assoc]); repeat (first | with_reducible exact Pre.refl _ | with_reducible exact Pre.base _ _ | with_reducible refine Pre.cons _ ?_)) | with_reducible assumption | ((with_reducible refine bsetr ?_); rfl) | with_reducible refine Below.setCell ?_ (by simp <;> omega) _ | with_reducible refine bpl ?_ _ _ | with_reducible refine bal ?_ _ | with_reducible refine bdrew1 ?_ | with_reducible refine bdrew ?_ _)) hb)
      clear hb
      obtain ⟨c1_p00, c1_p01, c1_p02, c1_p03⟩ := blkc4 K1_p0.out
      have y1_p0 : w.heap.size < w1.heap.size := blklt K1_p0.out
      go_wp2_with fail
      refine Calls.mono (szGraphS_any _ _ _ _ _ (by omega) (by omega) fbx0.1 fbx0.2) ?_
      rintro e0 w2 ⟨rfl, rfl⟩
      go_wp2_with fail
      refine Calls.mono (toFlagSum_any _ _ _ _ ax3 _ (ah3.below (by repeat (first | with_reducible exact B1.out | with_reducible refine bal ?_ _ | with_reducible refine bdrew1 ?_))) (by omega)) ?_
      rintro e0 w3 ⟨A3, cap3, F3, rfl, hO, hb⟩
      have z3 : w1.heap.size + 0 ≤ w3.heap.size := (by have := hb.size; (try simp at this); omega)
      have K3_p0 : Hid (w3.heap[w.heap.size]? = some (.cells #[.int .i64 a0, .int .u32 a1, .int .i64 a2, .slice A_av3 ax3.length cap_av3] 27 (0, 0))) := Lib.hid ((hb.block _ (by first | omega | (simp <;> omega))).trans (by repeat (first | exact K1_p0.out | exact blkal K1_p0.out _ | exact blkal (blkal K1_p0.out _) _ | exact blknew _ _ | exact blknew' _ _ _ (by simp) | with_reducible refine blkal ?_ _ | with_reducible refine blkdrew ?_)))
      have B3 : Hid (Below w.heap.size w w3) := Lib.hid (bthen (by repeat (first | with_reducible exact B1.out | with_reducible refine bal ?_ _ | with_reducible refine bdrew1 ?_)) hb)
      have L3_3 : Hid (∀ b ∈ F3, w1.heap.size + 0 ≤ b ∧ b < w3.heap.size) := Lib.hid (fun b hm => ⟨by have := hO.ge b hm; (try simp at this); omega, hO.lt b hm⟩)
      have O3_3 := Lib.hid hO
      clear K1_p0 hO B1 hb c1_p00 c1_p01 c1_p02 c1_p03 y1_p0
      obtain ⟨c3_p00, c3_p01, c3_p02, c3_p03⟩ := blkc4 K3_p0.out
      have y3_p0 : w.heap.size < w3.heap.size := blklt K3_p0.out
      go_wp2_with fail
      refine Calls.mono (toGraphS_any _ bx0 _ (bh0.below (by repeat (first | with_reducible exact B3.out | with_reducible refine bal ?_ _ | with_reducible refine bdrew1 ?_))) (by omega)) ?_
      rintro e0 w4 ⟨A4, cap4, F4, rfl, hO, hb⟩
      have z4 : w3.heap.size + 0 ≤ w4.heap.size := (by have := hb.size; (try simp at this); omega)
      have K4_p0 : Hid (w4.heap[w.heap.size]? = some (.cells #[.int .i64 a0, .int .u32 a1, .int .i64 a2, .slice A_av3 ax3.length cap_av3] 27 (0, 0))) := Lib.hid ((hb.block _ (by first | omega | (simp <;> omega))).trans (by repeat (first | exact K3_p0.out | exact blkal K3_p0.out _ | exact blkal (blkal K3_p0.out _) _ | exact blknew _ _ | exact blknew' _ _ _ (by simp) | with_reducible refine blkal ?_ _ | with_reducible refine blkdrew ?_)))
      have O4_3 := Lib.hid (O3_3.out.below (Nat.le_refl _) (bthen (by repeat (first | with_reducible exact Below.refl _ _ | with_reducible refine bal ?_ _ | with_reducible refine bdrew1 ?_)) hb))
      have B4 : Hid (Below w.heap.size w w4) := Lib.hid (bthen (by repeat (first | with_reducible exact B3.out | with_reducible refine bal ?_ _ | with_reducible refine bdrew1 ?_)) hb)
      have L4_4 : Hid (∀ b ∈ F4, w3.heap.size + 0 ≤ b ∧ b < w4.heap.size) := Lib.hid (fun b hm => ⟨by have := hO.ge b hm; (try simp at this); omega, hO.lt b hm⟩)
      have O4_4 := Lib.hid hO
      clear O3_3 K3_p0 hO B3 hb c3_p00 c3_p01 c3_p02 c3_p03 y3_p0
      obtain ⟨c4_p00, c4_p01, c4_p02, c4_p03⟩ := blkc4 K4_p0.out
      have y4_p0 : w.heap.size < w4.heap.size := blklt K4_p0.out
      go_wp2_with fail
      refine Calls.mono (HS.out _ _ _ (O4_3.out.lst.below (by repeat (first | with_reducible exact Below.refl _ _ | with_reducible refine bal ?_ _ | with_reducible refine bdrew1 ?_))) (O4_4.out.lst.below (by repeat (first | with_reducible exact Below.refl _ _ | with_reducible refine bal ?_ _ | with_reducible refine bdrew1 ?_))) (by omega) (by omega)) ?_
      rintro e0 w5 ⟨rfl, hb⟩
      have z5 : w4.heap.size + 0 ≤ w5.heap.size := (by have := hb.size; (try simp at this); omega)
      have K5_p0 : Hid (w5.heap[w.heap.size]? = some (.cells #[.int .i64 a0, .int .u32 a1, .int .i64 a2, .slice A_av3 ax3.length cap_av3] 27 (0, 0))) := Lib.hid ((hb.block _ (by first | omega | (simp <;> omega))).trans (by repeat (first | exact K4_p0.out | exact blkal K4_p0.out _ | exact blkal (blkal K4_p0.out _) _ | exact blknew _ _ | exact blknew' _ _ _ (by simp) | with_reducible refine blkal ?_ _ | with_reducible refine blkdrew ?_)))
      have O5_3 := Lib.hid (O4_3.out.below (Nat.le_refl _) (bthen (by repeat (first | with_reducible exact Below.refl _ _ | with_reducible refine bal ?_ _ | with_reducible refine bdrew1 ?_)) hb))
      have O5_4 := Lib.hid (O4_4.out.below (Nat.le_refl _) (bthen (by repeat (first | with_reducible exact Below.refl _ _ | with_reducible refine bal ?_ _ | with_reducible refine bdrew1 ?_)) hb))
      have B5 : Hid (Below w.heap.size w w5) := Lib.hid (bthen (by repeat (first | with_reducible exact B4.out | with_reducible refine bal ?_ _ | with_reducible refine bdrew1 ?_)) hb)
      clear O4_3 O4_4 K4_p0 B4 hb c4_p00 c4_p01 c4_p02 c4_p03 y4_p0
      obtain ⟨c5_p00, c5_p01, c5_p02, c5_p03⟩ := blkc4 K5_p0.out
      have y5_p0 : w.heap.size < w5.heap.size := blklt K5_p0.out
      go_wp2_with fail
      refine Calls.mono (toFlagSum_any _ _ _ _ ax3 _ (ah3.below (by repeat (first | with_reducible exact B5.out | with_reducible refine bal ?_ _ | with_reducible refine bdrew1 ?_))) (by omega)) ?_
      rintro e0 w6 ⟨A6, cap6, F6, rfl, hO, hb⟩
      have z6 : w5.heap.size + 2 ≤ w6.heap.size := (by have := hb.size; (try simp at this); omega)
      have K6_p0 : Hid (w6.heap[w.heap.size]? = some (.cells #[.int .i64 a0, .int .u32 a1, .int .i64 a2, .slice A_av3 ax3.length cap_av3] 27 (0, 0))) := Lib.hid ((hb.block _ (by first | omega | (simp <;> omega))).trans (by repeat (first | exact K5_p0.out | exact blkal K5_p0.out _ | exact blkal (blkal K5_p0.out _) _ | exact blknew _ _ | exact blknew' _ _ _ (by simp) | with_reducible refine blkal ?_ _ | with_reducible refine blkdrew ?_)))
      have K6_s6 : Hid (w6.heap[w5.heap.size]? = some (.cells #[.int .i64 r00, .int .i64 r01] 32 (0, 0))) := Lib.hid ((hb.block _ (by first | omega | (simp <;> omega))).trans (by repeat (first | exact blknew _ _ | exact blknew' _ _ _ (by simp) | with_reducible refine blkal ?_ _ | with_reducible refine blkdrew ?_)))
      have K6_s7 : Hid (w6.heap[w5.heap.size + 1]? = some (.cells #[.int .i64 r10, .int .i64 r11, .int .u32 r12] 35 (0, 0))) := Lib.hid ((hb.block _ (by first | omega | (simp <;> omega))).trans (by repeat (first | exact blknew _ _ | exact blknew' _ _ _ (by simp) | with_reducible refine blkal ?_ _ | with_reducible refine blkdrew ?_)))
      have O6_3 := Lib.hid (O5_3.out.below (Nat.le_refl _) (bthen (by repeat (first | with_reducible exact Below.refl _ _ | with_reducible refine bal ?_ _ | with_reducible refine bdrew1 ?_)) hb))
      have O6_4 := Lib.hid (O5_4.out.below (Nat.le_refl _) (bthen (by repeat (first | with_reducible exact Below.refl _ _ | with_reducible refine bal ?_ _ | with_reducible refine bdrew1 ?_)) hb))
      have B6 : Hid (Below w.heap.size w w6) := Lib.hid (bthen (by repeat (first | with_reducible exact B5.out | with_reducible refine bal ?_ _ | with_reducible refine bdrew1 ?_)) hb)
      have L6_6 : Hid (∀ b ∈ F6, w5.heap.size + 2 ≤ b ∧ b < w6.heap.size) := Lib.hid (fun b hm => ⟨by have := hO.ge b hm; (try simp at this); omega, hO.lt b hm⟩)
      have O6_6 := Lib.hid hO
      clear O5_3 O5_4 K5_p0 hO B5 hb c5_p00 c5_p01 c5_p02 c5_p03 y5_p0
      obtain ⟨c6_p00, c6_p01, c6_p02, c6_p03⟩ := blkc4 K6_p0.out
      have y6_p0 : w.heap.size < w6.heap.size := blklt K6_p0.out
      obtain ⟨c6_s60, c6_s61⟩ := blkc2 K6_s6.out
      have y6_s6 : w5.heap.size < w6.heap.size := blklt K6_s6.out
      obtain ⟨c6_s70, c6_s71, c6_s72⟩ := blkc3 K6_s7.out
      have y6_s7 : w5.heap.size + 1 < w6.heap.size := blklt K6_s7.out
      go_wp2_with fail
      refine Calls.mono (toGraphS_any _ bx0 _ (bh0.below (by repeat (first | with_reducible exact B6.out | with_reducible refine bal ?_ _ | with_reducible refine bdrew1 ?_))) (by omega)) ?_
      rintro e0 w7 ⟨A7, cap7, F7, rfl, hO, hb⟩
      have z7 : w6.heap.size + 1 ≤ w7.heap.size := (by have := hb.size; (try simp at this); omega)
      have K7_p0 : Hid (w7.heap[w.heap.size]? = some (.cells #[.int .i64 a0, .int .u32 a1, .int .i64 a2, .slice A_av3 ax3.length cap_av3] 27 (0, 0))) := Lib.hid ((hb.block _ (by first | omega | (simp <;> omega))).trans (by repeat (first | exact K6_p0.out | exact blkal K6_p0.out _ | exact blkal (blkal K6_p0.out _) _ | exact blknew _ _ | exact blknew' _ _ _ (by simp) | with_reducible refine blkal ?_ _ | with_reducible refine blkdrew ?_)))
      have K7_s6 : Hid (w7.heap[w5.heap.size]? = some (.cells #[.int .i64 r00, .int .i64 r01] 32 (0, 0))) := Lib.hid ((hb.block _ (by first | omega | (simp <;> omega))).trans (by repeat (first | exact K6_s6.out | exact blkal K6_s6.out _ | exact blkal (blkal K6_s6.out _) _ | exact blknew _ _ | exact blknew' _ _ _ (by simp) | with_reducible refine blkal ?_ _ | with_reducible refine blkdrew ?_)))
      have K7_s7 : Hid (w7.heap[w5.heap.size + 1]? = some (.cells #[.int .i64 r10, .int .i64 r11, .int .u32 r12] 35 (0, 0))) := Lib.hid ((hb.block _ (by first | omega | (simp <;> omega))).trans (by repeat (first | exact K6_s7.out | exact blkal K6_s7.out _ | exact blkal (blkal K6_s7.out _) _ | exact blknew _ _ | exact blknew' _ _ _ (by simp) | with_reducible refine blkal ?_ _ | with_reducible refine blkdrew ?_)))
      have K7_s9 : Hid (w7.heap[w6.heap.size]? = some (.cells #[.int .i64 a0, .int .u32 a1, .int .i64 a2, .slice A6 ax3.length cap6] 40 (0, 0))) := Lib.hid ((hb.block _ (by first | omega | (simp <;> omega))).trans (by repeat (first | exact blknew _ _ | exact blknew' _ _ _ (by simp) | with_reducible refine blkal ?_ _ | with_reducible refine blkdrew ?_)))
      have O7_3 := Lib.hid (O6_3.out.below (Nat.le_refl _) (bthen (by repeat (first | with_reducible exact Below.refl _ _ | with_reducible refine bal ?_ _ | with_reducible refine bdrew1 ?_)) hb))
      have O7_4 := Lib.hid (O6_4.out.below (Nat.le_refl _) (bthen (by repeat (first | with_reducible exact Below.refl _ _ | with_reducible refine bal ?_ _ | with_reducible refine bdrew1 ?_)) hb))
      have O7_6 := Lib.hid (O6_6.out.below (Nat.le_refl _) (bthen (by repeat (first | with_reducible exact Below.refl _ _ | with_reducible refine bal ?_ _ | with_reducible refine bdrew1 ?_)) hb))
      have B7 : Hid (Below w.heap.size w w7) := Lib.hid (bthen (by repeat (first | with_reducible exact B6.out | with_reducible refine bal ?_ _ | with_reducible refine bdrew1 ?_)) hb)
      have L7_7 : Hid (∀ b ∈ F7, w6.heap.size + 1 ≤ b ∧ b < w7.heap.size) := Lib.hid (fun b hm => ⟨by have := hO.ge b hm; (try simp at this); omega, hO.lt b hm⟩)
      have O7_7 := Lib.hid hO
      clear O6_3 O6_4 O6_6 K6_p0 K6_s6 K6_s7 hO B6 hb c6_p00 c6_p01 c6_p02 c6_p03 y6_p0 c6_s60 c6_s61 y6_s6 c6_s70 c6_s71 c6_s72 y6_s7
      obtain ⟨c7_p00, c7_p01, c7_p02, c7_p03⟩ := blkc4 K7_p0.out
      have y7_p0 : w.heap.size < w7.heap.size := blklt K7_p0.out
      obtain ⟨c7_s60, c7_s61⟩ := blkc2 K7_s6.out
      have y7_s6 : w5.heap.size < w7.heap.size := blklt K7_s6.out
      obtain ⟨c7_s70, c7_s71, c7_s72⟩ := blkc3 K7_s7.out
      have y7_s7 : w5.heap.size + 1 < w7.heap.size := blklt K7_s7.out
      obtain ⟨c7_s90, c7_s91, c7_s92, c7_s93⟩ := blkc4 K7_s9.out
      have y7_s9 : w6.heap.size < w7.heap.size := blklt K7_s9.out
      go_wp2_with fail
      refine Calls.mono (HI.out _ _ _ (O7_6.out.lst.below (by repeat (first | with_reducible exact Below.refl _ _ | with_reducible refine bal ?_ _ | with_reducible refine bdrew1 ?_))) (O7_7.out.lst.below (by repeat (first | with_reducible exact Below.refl _ _ | with_reducible refine bal ?_ _ | with_reducible refine bdrew1 ?_))) (by omega) (by omega)) ?_
      rintro e0 w8 ⟨rfl, hb⟩
      have z8 : w7.heap.size + 0 ≤ w8.heap.size := (by have := hb.size; (try simp at this); omega)
      have K8_p0 : Hid (w8.heap[w.heap.size]? = some (.cells #[.int .i64 a0, .int .u32 a1, .int .i64 a2, .slice A_av3 ax3.length cap_av3] 27 (0, 0))) := Lib.hid ((hb.block _ (by first | omega | (simp <;> omega))).trans (by repeat (first | exact K7_p0.out | exact blkal K7_p0.out _ | exact blkal (blkal K7_p0.out _) _ | exact blknew _ _ | exact blknew' _ _ _ (by simp) | with_reducible refine blkal ?_ _ | with_reducible refine blkdrew ?_)))
      have K8_s6 : Hid (w8.heap[w5.heap.size]? = some (.cells #[.int .i64 r00, .int .i64 r01] 32 (0, 0))) := Lib.hid ((hb.block _ (by first | omega | (simp <;> omega))).trans (by repeat (first | exact K7_s6.out | exact blkal K7_s6.out _ | exact blkal (blkal K7_s6.out _) _ | exact blknew _ _ | exact blknew' _ _ _ (by simp) | with_reducible refine blkal ?_ _ | with_reducible refine blkdrew ?_)))
      have K8_s7 : Hid (w8.heap[w5.heap.size + 1]? = some (.cells #[.int .i64 r10, .int .i64 r11, .int .u32 r12] 35 (0, 0))) := Lib.hid ((hb.block _ (by first | omega | (simp <;> omega))).trans (by repeat (first | exact K7_s7.out | exact blkal K7_s7.out _ | exact blkal (blkal K7_s7.out _) _ | exact blknew _ _ | exact blknew' _ _ _ (by simp) | with_reducible refine blkal ?_ _ | with_reducible refine blkdrew ?_)))
      have K8_s9 : Hid (w8.heap[w6.heap.size]? = some (.cells #[.int .i64 a0, .int .u32 a1, .int .i64 a2, .slice A6 ax3.length cap6] 40 (0, 0))) := Lib.hid ((hb.block _ (by first | omega | (simp <;> omega))).trans (by repeat (first | exact K7_s9.out | exact blkal K7_s9.out _ | exact blkal (blkal K7_s9.out _) _ | exact blknew _ _ | exact blknew' _ _ _ (by simp) | with_reducible refine blkal ?_ _ | with_reducible refine blkdrew ?_)))
      have O8_3 := Lib.hid (O7_3.out.below (Nat.le_refl _) (bthen (by repeat (first | with_reducible exact Below.refl _ _ | with_reducible refine bal ?_ _ | with_reducible refine bdrew1 ?_)) hb))
      have O8_4 := Lib.hid (O7_4.out.below (Nat.le_refl _) (bthen (by repeat (first | with_reducible exact Below.refl _ _ | with_reducible refine bal ?_ _ | with_reducible refine bdrew1 ?_)) hb))
      have O8_6 := Lib.hid (O7_6.out.below (Nat.le_refl _) (bthen (by repeat (first | with_reducible exact Below.refl _ _ | with_reducible refine bal ?_ _ | with_reducible refine bdrew1 ?_)) hb))
      have O8_7 := Lib.hid (O7_7.out.below (Nat.le_refl _) (bthen (by repeat (first | with_reducible exact Below.refl _ _ | with_reducible refine bal ?_ _ | with_reducible refine bdrew1 ?_)) hb))
      have B8 : Hid (Below w.heap.size w w8) := Lib.hid (bthen (by repeat (first | with_reducible exact B7.out | with_reducible refine bal ?_ _ | with_reducible refine bdrew1 ?_)) hb)
      clear O7_3 O7_4 O7_6 O7_7 K7_p0 K7_s6 K7_s7 K7_s9 B7 hb c7_p00 c7_p01 c7_p02 c7_p03 y7_p0 c7_s60 c7_s61 y7_s6 c7_s70 c7_s71 c7_s72 y7_s7 c7_s90 c7_s91 c7_s92 c7_s93 y7_s9
      obtain ⟨c8_p00, c8_p01, c8_p02, c8_p03⟩ := blkc4 K8_p0.out
      have y8_p0 : w.heap.size < w8.heap.size := blklt K8_p0.out
      obtain ⟨c8_s60, c8_s61⟩ := blkc2 K8_s6.out
      have y8_s6 : w5.heap.size < w8.heap.size := blklt K8_s6.out
      obtain ⟨c8_s70, c8_s71, c8_s72⟩ := blkc3 K8_s7.out
      have y8_s7 : w5.heap.size + 1 < w8.heap.size := blklt K8_s7.out
      obtain ⟨c8_s90, c8_s91, c8_s92, c8_s93⟩ := blkc4 K8_s9.out
      have y8_s9 : w6.heap.size < w8.heap.size := blklt K8_s9.out
      go_wp2_with fail
      refine Calls.mono (eqFraction_same _ _ _) ?_
      rintro e0 w9 ⟨rfl, hb⟩
      have z9 : w8.heap.size + 2 ≤ w9.heap.size := (by have := hb.size; (try simp at this); omega)
      have K9_p0 : Hid (w9.heap[w.heap.size]? = some (.cells #[.int .i64 a0, .int .u32 a1, .int .i64 a2, .slice A_av3 ax3.length cap_av3] 27 (0, 0))) := Lib.hid ((hb.block _ (by first | omega | (simp <;> omega))).trans (by repeat (first | exact K8_p0.out | exact blkal K8_p0.out _ | exact blkal (blkal K8_p0.out _) _ | exact blknew _ _ | exact blknew' _ _ _ (by simp) | with_reducible refine blkal ?_ _ | with_reducible refine blkdrew ?_)))
      have K9_s6 : Hid (w9.heap[w5.heap.size]? = some (.cells #[.int .i64 r00, .int .i64 r01] 32 (0, 0))) := Lib.hid ((hb.block _ (by first | omega | (simp <;> omega))).trans (by repeat (first | exact K8_s6.out | exact blkal K8_s6.out _ | exact blkal (blkal K8_s6.out _) _ | exact blknew _ _ | exact blknew' _ _ _ (by simp) | with_reducible refine blkal ?_ _ | with_reducible refine blkdrew ?_)))
      have K9_s7 : Hid (w9.heap[w5.heap.size + 1]? = some (.cells #[.int .i64 r10, .int .i64 r11, .int .u32 r12] 35 (0, 0))) := Lib.hid ((hb.block _ (by first | omega | (simp <;> omega))).trans (by repeat (first | exact K8_s7.out | exact blkal K8_s7.out _ | exact blkal (blkal K8_s7.out _) _ | exact blknew _ _ | exact blknew' _ _ _ (by simp) | with_reducible refine blkal ?_ _ | with_reducible refine blkdrew ?_)))
      have K9_s9 : Hid (w9.heap[w6.heap.size]? = some (.cells #[.int .i64 a0, .int .u32 a1, .int .i64 a2, .slice A6 ax3.length cap6] 40 (0, 0))) := Lib.hid ((hb.block _ (by first | omega | (simp <;> omega))).trans (by repeat (first | exact K8_s9.out | exact blkal K8_s9.out _ | exact blkal (blkal K8_s9.out _) _ | exact blknew _ _ | exact blknew' _ _ _ (by simp) | with_reducible refine blkal ?_ _ | with_reducible refine blkdrew ?_)))
      have K9_s11 : Hid (w9.heap[w8.heap.size]? = some (.cells #[.int .i64 r00, .int .i64 r01] 32 (0, 0))) := Lib.hid ((hb.block _ (by first | omega | (simp <;> omega))).trans (by repeat (first | exact blknew _ _ | exact blknew' _ _ _ (by simp) | with_reducible refine blkal ?_ _ | with_reducible refine blkdrew ?_)))
      have K9_s12 : Hid (w9.heap[w8.heap.size + 1]? = some (.cells #[.int .i64 r10, .int .i64 r11, .int .u32 r12] 35 (0, 0))) := Lib.hid ((hb.block _ (by first | omega | (simp <;> omega))).trans (by repeat (first | exact blknew _ _ | exact blknew' _ _ _ (by simp) | with_reducible refine blkal ?_ _ | with_reducible refine blkdrew ?_)))
      have O9_3 := Lib.hid (O8_3.out.below (Nat.le_refl _) (bthen (by repeat (first | with_reducible exact Below.refl _ _ | with_reducible refine bal ?_ _ | with_reducible refine bdrew1 ?_)) hb))
      have O9_4 := Lib.hid (O8_4.out.below (Nat.le_refl _) (bthen (by repeat (first | with_reducible exact Below.refl _ _ | with_reducible refine bal ?_ _ | with_reducible refine bdrew1 ?_)) hb))
      have O9_6 := Lib.hid (O8_6.out.below (Nat.le_refl _) (bthen (by repeat (first | with_reducible exact Below.refl _ _ | with_reducible refine bal ?_ _ | with_reducible refine bdrew1 ?_)) hb))
      have O9_7 := Lib.hid (O8_7.out.below (Nat.le_refl _) (bthen (by repeat (first | with_reducible exact Below.refl _ _ | with_reducible refine bal ?_ _ | with_reducible refine bdrew1 ?_)) hb))
      have B9 : Hid (Below w.heap.size w w9) := Lib.hid (bthen (by repeat (first | with_reducible exact B8.out | with_reducible refine bal ?_ _ | with_reducible refine bdrew1 ?_)) hb)
      clear O8_3 O8_4 O8_6 O8_7 K8_p0 K8_s6 K8_s7 K8_s9 B8 hb c8_p00 c8_p01 c8_p02 c8_p03 y8_p0 c8_s60 c8_s61 y8_s6 c8_s70 c8_s71 c8_s72 y8_s7 c8_s90 c8_s91 c8_s92 c8_s93 y8_s9
      obtain ⟨c9_p00, c9_p01, c9_p02, c9_p03⟩ := blkc4 K9_p0.out
      have y9_p0 : w.heap.size < w9.heap.size := blklt K9_p0.out
      obtain ⟨c9_s60, c9_s61⟩ := blkc2 K9_s6.out
      have y9_s6 : w5.heap.size < w9.heap.size := blklt K9_s6.out
      obtain ⟨c9_s70, c9_s71, c9_s72⟩ := blkc3 K9_s7.out
      have y9_s7 : w5.heap.size + 1 < w9.heap.size := blklt K9_s7.out
      obtain ⟨c9_s90, c9_s91, c9_s92, c9_s93⟩ := blkc4 K9_s9.out
      have y9_s9 : w6.heap.size < w9.heap.size := blklt K9_s9.out
      obtain ⟨c9_s110, c9_s111⟩ := blkc2 K9_s11.out
      have y9_s11 : w8.heap.size < w9.heap.size := blklt K9_s11.out
      obtain ⟨c9_s120, c9_s121, c9_s122⟩ := blkc3 K9_s12.out
      have y9_s12 : w8.heap.size + 1 < w9.heap.size := blklt K9_s12.out
      go_wp2_with fail
      refine Calls.mono (eqFlag_same _ _ _ _) ?_
      rintro e0 w10 ⟨rfl, hb⟩
      have z10 : w9.heap.size + 0 ≤ w10.heap.size := (by have := hb.size; (try simp at this); omega)
      have K10_p0 : Hid (w10.heap[w.heap.size]? = some (.cells #[.int .i64 a0, .int .u32 a1, .int .i64 a2, .slice A_av3 ax3.length cap_av3] 27 (0, 0))) := Lib.hid ((hb.block _ (by first | omega | (simp <;> omega))).trans (by repeat (first | exact K9_p0.out | exact blkal K9_p0.out _ | exact blkal (blkal K9_p0.out _) _ | exact blknew _ _ | exact blknew' _ _ _ (by simp) | with_reducible refine blkal ?_ _ | with_reducible refine blkdrew ?_)))
      have K10_s6 : Hid (w10.heap[w5.heap.size]? = some (.cells #[.int .i64 r00, .int .i64 r01] 32 (0, 0))) := Lib.hid ((hb.block _ (by first | omega | (simp <;> omega))).trans (by repeat (first | exact K9_s6.out | exact blkal K9_s6.out _ | exact blkal (blkal K9_s6.out _) _ | exact blknew _ _ | exact blknew' _ _ _ (by simp) | with_reducible refine blkal ?_ _ | with_reducible refine blkdrew ?_)))
      have K10_s7 : Hid (w10.heap[w5.heap.size + 1]? = some (.cells #[.int .i64 r10, .int .i64 r11, .int .u32 r12] 35 (0, 0))) := Lib.hid ((hb.block _ (by first | omega | (simp <;> omega))).trans (by repeat (first | exact K9_s7.out | exact blkal K9_s7.out _ | exact blkal (blkal K9_s7.out _) _ | exact blknew _ _ | exact blknew' _ _ _ (by simp) | with_reducible refine blkal ?_ _ | with_reducible refine blkdrew ?_)))
      have K10_s9 : Hid (w10.heap[w6.heap.size]? = some (.cells #[.int .i64 a0, .int .u32 a1, .int .i64 a2, .slice A6 ax3.length cap6] 40 (0, 0))) := Lib.hid ((hb.block _ (by first | omega | (simp <;> omega))).trans (by repeat (first | exact K9_s9.out | exact blkal K9_s9.out _ | exact blkal (blkal K9_s9.out _) _ | exact blknew _ _ | exact blknew' _ _ _ (by simp) | with_reducible refine blkal ?_ _ | with_reducible refine blkdrew ?_)))
      have K10_s11 : Hid (w10.heap[w8.heap.size]? = some (.cells #[.int .i64 r00, .int .i64 r01] 32 (0, 0))) := Lib.hid ((hb.block _ (by first | omega | (simp <;> omega))).trans (by repeat (first | exact K9_s11.out | exact blkal K9_s11.out _ | exact blkal (blkal K9_s11.out _) _ | exact blknew _ _ | exact blknew' _ _ _ (by simp) | with_reducible refine blkal ?_ _ | with_reducible refine blkdrew ?_)))
      have K10_s12 : Hid (w10.heap[w8.heap.size + 1]? = some (.cells #[.int .i64 r10, .int .i64 r11, .int .u32 r12] 35 (0, 0))) := Lib.hid ((hb.block _ (by first | omega | (simp <;> omega))).trans (by repeat (first | exact K9_s12.out | exact blkal K9_s12.out _ | exact blkal (blkal K9_s12.out _) _ | exact blknew _ _ | exact blknew' _ _ _ (by simp) | with_reducible refine blkal ?_ _ | with_reducible refine blkdrew ?_)))
      have O10_3 := Lib.hid (O9_3.out.below (Nat.le_refl _) (bthen (by repeat (first | with_reducible exact Below.refl _ _ | with_reducible refine bal ?_ _ | with_reducible refine bdrew1 ?_)) hb))
      have O10_4 := Lib.hid (O9_4.out.below (Nat.le_refl _) (bthen (by repeat (first | with_reducible exact Below.refl _ _ | with_reducible refine bal ?_ _ | with_reducible refine bdrew1 ?_)) hb))
      have O10_6 := Lib.hid (O9_6.out.below (Nat.le_refl _) (bthen (by repeat (first | with_reducible exact Below.refl _ _ | with_reducible refine bal ?_ _ | with_reducible refine bdrew1 ?_)) hb))
      have O10_7 := Lib.hid (O9_7.out.below (Nat.le_refl _) (bthen (by repeat (first | with_reducible exact Below.refl _ _ | with_reducible refine bal ?_ _ | with_reducible refine bdrew1 ?_)) hb))
      have B10 : Hid (Below w.heap.size w w10) := Lib.hid (bthen (by repeat (first | with_reducible exact B9.out | with_reducible refine bal ?_ _ | with_reducible refine bdrew1 ?_)) hb)
      clear O9_3 O9_4 O9_6 O9_7 K9_p0 K9_s6 K9_s7 K9_s9 K9_s11 K9_s12 B9 hb c9_p00 c9_p01 c9_p02 c9_p03 y9_p0 c9_s60 c9_s61 y9_s6 c9_s70 c9_s71 c9_s72 y9_s7 c9_s90 c9_s91 c9_s92 c9_s93 y9_s9 c9_s110 c9_s111 y9_s11 c9_s120 c9_s121 c9_s122 y9_s12
      obtain ⟨c10_p00, c10_p01, c10_p02, c10_p03⟩ := blkc4 K10_p0.out
      have y10_p0 : w.heap.size < w10.heap.size := blklt K10_p0.out
      obtain ⟨c10_s60, c10_s61⟩ := blkc2 K10_s6.out
      have y10_s6 : w5.heap.size < w10.heap.size := blklt K10_s6.out
      obtain ⟨c10_s70, c10_s71, c10_s72⟩ := blkc3 K10_s7.out
      have y10_s7 : w5.heap.size + 1 < w10.heap.size := blklt K10_s7.out
      obtain ⟨c10_s90, c10_s91, c10_s92, c10_s93⟩ := blkc4 K10_s9.out
      have y10_s9 : w6.heap.size < w10.heap.size := blklt K10_s9.out
      obtain ⟨c10_s110, c10_s111⟩ := blkc2 K10_s11.out
      have y10_s11 : w8.heap.size < w10.heap.size := blklt K10_s11.out
      obtain ⟨c10_s120, c10_s121, c10_s122⟩ := blkc3 K10_s12.out
      have y10_s12 : w8.heap.size + 1 < w10.heap.size := blklt K10_s12.out
      go_wp2_with fail
      (refine wp_region_held_drew (S := (fun w' => w'.cell? ⟨w.heap.size, 0, none⟩ = some (.int .i64 a0) ∧ w'.cell? ⟨w.heap.size, 1, none⟩ = some (.int .u32 a1) ∧ w'.cell? ⟨w.heap.size, 2, none⟩ = some (.int .i64 a2) ∧ w'.cell? ⟨w.heap.size, 3, none⟩ = some (.slice A_av3 ax3.length cap_av3) ∧ w'.cell? ⟨w6.heap.size, 0, none⟩ = some (.int .i64 a0) ∧ w'.cell? ⟨w6.heap.size, 1, none⟩ = some (.int .u32 a1) ∧ w'.cell? ⟨w6.heap.size, 2, none⟩ = some (.int .i64 a2) ∧ w'.cell? ⟨w6.heap.size, 3, none⟩ = some (.slice A6 ax3.length cap6))) (by kernel_rfl) ?_ (fun hHeld => ?_); (focus (simp [*, go_sem])); refine rg_take 0 (some 59) (v := ?_) rfl (by kernel_rfl) (by kernel_rfl) (by kernel_rfl) (by kernel_rfl) (fun _ _ _ h => h) (Or.inl ⟨by kernel_rfl, ?_⟩) (by assumption) ?_; rotate_left; (focus (intro w' hSw; (try dsimp only at hSw); go_simp; (try with_reducible rfl))); (try simp only [Act.put, List.setIfInBounds_toArray, List.set_cons_zero, List.set_cons_succ]); refine rg_take 1 (some 60) (v := ?_) rfl (by kernel_rfl) (by kernel_rfl) (by kernel_rfl) (by kernel_rfl) (fun _ _ _ h => h) (Or.inl ⟨by kernel_rfl, ?_⟩) (by assumption) ?_; rotate_left; (focus (intro w' hSw; (try dsimp only at hSw); go_simp; (try with_reducible rfl))); (try simp only [Act.put, List.setIfInBounds_toArray, List.set_cons_zero, List.set_cons_succ]); refine wpAnyH_ready (rs := [2]) (by kernel_rfl) (by simp) ?_; refine AllReadyH.cons rfl (fun K hK => ?_) AllReadyH.nil; go_simp; (go_at_call 8; refine Calls.mono (toFlagSum_any _ _ _ _ ax3 _ (ah3.below (by repeat (first | with_reducible exact B10.out | with_reducible refine bal ?_ _ | with_reducible refine bdrew1 ?_))) (by omega)) ?_; rintro e0 w11 ⟨A11, cap11, F11, rfl, hO, hb⟩; have z11 : w10.heap.size + 0 ≤ w11.heap.size := (by have := hb.size; (try simp at this); omega); have K11_p0 : Hid (w11.heap[w.heap.size]? = some (.cells #[.int .i64 a0, .int .u32 a1, .int .i64 a2, .slice A_av3 ax3.length cap_av3] 27 (0, 0))) := Lib.hid ((hb.block _ (by first | omega | (simp <;> omega))).trans (by repeat (first | exact K10_p0.out | exact blkal K10_p0.out _ | exact blkal (blkal K10_p0.out _) _ | exact blknew _ _ | exact blknew' _ _ _ (by simp) | with_reducible refine blkal ?_ _ | with_reducible refine blkdrew ?_))); have K11_s6 : Hid (w11.heap[w5.heap.size]? = some (.cells #[.int .i64 r00, .int .i64 r01] 32 (0, 0))) := Lib.hid ((hb.block _ (by first | omega | (simp <;> omega))).trans (by repeat (first | exact K10_s6.out | exact blkal K10_s6.out _ | exact blkal (blkal K10_s6.out _) _ | exact blknew _ _ | exact blknew' _ _ _ (by simp) | with_reducible refine blkal ?_ _ | with_reducible refine blkdrew ?_))); have K11_s7 : Hid (w11.heap[w5.heap.size + 1]? = some (.cells #[.int .i64 r10, .int .i64 r11, .int .u32 r12] 35 (0, 0))) := Lib.hid ((hb.block _ (by first | omega | (simp <;> omega))).trans (by repeat (first | exact K10_s7.out | exact blkal K10_s7.out _ | exact blkal (blkal K10_s7.out _) _ | exact blknew _ _ | exact blknew' _ _ _ (by simp) | with_reducible refine blkal ?_ _ | with_reducible refine blkdrew ?_))); have K11_s9 : Hid (w11.heap[w6.heap.size]? = some (.cells #[.int .i64 a0, .int .u32 a1, .int .i64 a2, .slice A6 ax3.length cap6] 40 (0, 0))) := Lib.hid ((hb.block _ (by first | omega | (simp <;> omega))).trans (by repeat (first | exact K10_s9.out | exact blkal K10_s9.out _ | exact blkal (blkal K10_s9.out _) _ | exact blknew _ _ | exact blknew' _ _ _ (by simp) | with_reducible refine blkal ?_ _ | with_reducible refine blkdrew ?_))); have K11_s11 : Hid (w11.heap[w8.heap.size]? = some (.cells #[.int .i64 r00, .int .i64 r01] 32 (0, 0))) := Lib.hid ((hb.block _ (by first | omega | (simp <;> omega))).trans (by repeat (first | exact K10_s11.out | exact blkal K10_s11.out _ | exact blkal (blkal K10_s11.out _) _ | exact blknew _ _ | exact blknew' _ _ _ (by simp) | with_reducible refine blkal ?_ _ | with_reducible refine blkdrew ?_))); have K11_s12 : Hid (w11.heap[w8.heap.size + 1]? = some (.cells #[.int .i64 r10, .int .i64 r11, .int .u32 r12] 35 (0, 0))) := Lib.hid ((hb.block _ (by first | omega | (simp <;> omega))).trans (by repeat (first | exact K10_s12.out | exact blkal K10_s12.out _ | exact blkal (blkal K10_s12.out _) _ | exact blknew _ _ | exact blknew' _ _ _ (by simp) | with_reducible refine blkal ?_ _ | with_reducible refine blkdrew ?_))); have O11_3 := Lib.hid (O10_3.out.below (Nat.le_refl _) (bthen (by repeat (first | with_reducible exact Below.refl _ _ | with_reducible refine bal ?_ _ | with_reducible refine bdrew1 ?_)) hb)); have O11_4 := Lib.hid (O10_4.out.below (Nat.le_refl _) (bthen (by repeat (first | with_reducible exact Below.refl _ _ | with_reducible refine bal ?_ _ | with_reducible refine bdrew1 ?_)) hb)); have O11_6 := Lib.hid (O10_6.out.below (Nat.le_refl _) (bthen (by repeat (first | with_reducible exact Below.refl _ _ | with_reducible refine bal ?_ _ | with_reducible refine bdrew1 ?_)) hb)); have O11_7 := Lib.hid (O10_7.out.below (Nat.le_refl _) (bthen (by repeat (first | with_reducible exact Below.refl _ _ | with_reducible refine bal ?_ _ | with_reducible refine bdrew1 ?_)) hb)); have B11 : Hid (Below w.heap.size w w11) := Lib.hid (bthen (by repeat (first | with_reducible exact B10.out | with_reducible refine bal ?_ _ | with_reducible refine bdrew1 ?_)) hb); have L11_11 : Hid (∀ b ∈ F11, w10.heap.size + 0 ≤ b ∧ b < w11.heap.size) := Lib.hid (fun b hm => ⟨by have := hO.ge b hm; (try simp at this); omega, hO.lt b hm⟩); have O11_11 := Lib.hid hO; clear O10_3 O10_4 O10_6 O10_7 K10_p0 K10_s6 K10_s7 K10_s9 K10_s11 K10_s12 hO B10 hb c10_p00 c10_p01 c10_p02 c10_p03 y10_p0 c10_s60 c10_s61 y10_s6 c10_s70 c10_s71 c10_s72 y10_s7 c10_s90 c10_s91 c10_s92 c10_s93 y10_s9 c10_s110 c10_s111 y10_s11 c10_s120 c10_s121 c10_s122 y10_s12; obtain ⟨c11_p00, c11_p01, c11_p02, c11_p03⟩ := blkc4 K11_p0.out; have y11_p0 : w.heap.size < w11.heap.size := blklt K11_p0.out; obtain ⟨c11_s60, c11_s61⟩ := blkc2 K11_s6.out; have y11_s6 : w5.heap.size < w11.heap.size := blklt K11_s6.out; obtain ⟨c11_s70, c11_s71, c11_s72⟩ := blkc3 K11_s7.out; have y11_s7 : w5.heap.size + 1 < w11.heap.size := blklt K11_s7.out; obtain ⟨c11_s90, c11_s91, c11_s92, c11_s93⟩ := blkc4 K11_s9.out; have y11_s9 : w6.heap.size < w11.heap.size := blklt K11_s9.out; obtain ⟨c11_s110, c11_s111⟩ := blkc2 K11_s11.out; have y11_s11 : w8.heap.size < w11.heap.size := blklt K11_s11.out; obtain ⟨c11_s120, c11_s121, c11_s122⟩ := blkc3 K11_s12.out; have y11_s12 : w8.heap.size + 1 < w11.heap.size := blklt K11_s12.out); go_wp2_with fail; refine hK.out _ _ ?_ (fun hHeld => ?_); (focus (simp [*, go_sem])); clear hK K; (try simp only [Act.put, List.setIfInBounds_toArray, List.set_cons_zero, List.set_cons_succ]); refine wpAnyH_ready (rs := [3]) (by kernel_rfl) (by simp) ?_; refine AllReadyH.cons rfl (fun K hK => ?_) AllReadyH.nil; go_simp; (go_at_call 13; refine Calls.mono (eqFlagSum_same _ _ _ _ ax3 _ _ (O11_6.out.lst.below (by repeat (first | with_reducible exact Below.refl _ _ | with_reducible refine bal ?_ _ | with_reducible refine bdrew1 ?_))) (O11_11.out.lst.below (by repeat (first | with_reducible exact Below.refl _ _ | with_reducible refine bal ?_ _ | with_reducible refine bdrew1 ?_))) (by omega)) ?_; rintro e0 w12 ⟨rfl, hb⟩; have z12 : w11.heap.size + 0 ≤ w12.heap.size := (by have := hb.size; (try simp at this); omega); have K12_p0 : Hid (w12.heap[w.heap.size]? = some (.cells #[.int .i64 a0, .int .u32 a1, .int .i64 a2, .slice A_av3 ax3.length cap_av3] 27 (0, 0))) := Lib.hid ((hb.block _ (by first | omega | (simp <;> omega))).trans (by repeat (first | exact K11_p0.out | exact blkal K11_p0.out _ | exact blkal (blkal K11_p0.out _) _ | exact blknew _ _ | exact blknew' _ _ _ (by simp) | with_reducible refine blkal ?_ _ | with_reducible refine blkdrew ?_))); have K12_s6 : Hid (w12.heap[w5.heap.size]? = some (.cells #[.int .i64 r00, .int .i64 r01] 32 (0, 0))) := Lib.hid ((hb.block _ (by first | omega | (simp <;> omega))).trans (by repeat (first | exact K11_s6.out | exact blkal K11_s6.out _ | exact blkal (blkal K11_s6.out _) _ | exact blknew _ _ | exact blknew' _ _ _ (by simp) | with_reducible refine blkal ?_ _ | with_reducible refine blkdrew ?_))); have K12_s7 : Hid (w12.heap[w5.heap.size + 1]? = some (.cells #[.int .i64 r10, .int .i64 r11, .int .u32 r12] 35 (0, 0))) := Lib.hid ((hb.block _ (by first | omega | (simp <;> omega))).trans (by repeat (first | exact K11_s7.out | exact blkal K11_s7.out _ | exact blkal (blkal K11_s7.out _) _ | exact blknew _ _ | exact blknew' _ _ _ (by simp) | with_reducible refine blkal ?_ _ | with_reducible refine blkdrew ?_))); have K12_s9 : Hid (w12.heap[w6.heap.size]? = some (.cells #[.int .i64 a0, .int .u32 a1, .int .i64 a2, .slice A6 ax3.length cap6] 40 (0, 0))) := Lib.hid ((hb.block _ (by first | omega | (simp <;> omega))).trans (by repeat (first | exact K11_s9.out | exact blkal K11_s9.out _ | exact blkal (blkal K11_s9.out _) _ | exact blknew _ _ | exact blknew' _ _ _ (by simp) | with_reducible refine blkal ?_ _ | with_reducible refine blkdrew ?_))); have K12_s11 : Hid (w12.heap[w8.heap.size]? = some (.cells #[.int .i64 r00, .int .i64 r01] 32 (0, 0))) := Lib.hid ((hb.block _ (by first | omega | (simp <;> omega))).trans (by repeat (first | exact K11_s11.out | exact blkal K11_s11.out _ | exact blkal (blkal K11_s11.out _) _ | exact blknew _ _ | exact blknew' _ _ _ (by simp) | with_reducible refine blkal ?_ _ | with_reducible refine blkdrew ?_))); have K12_s12 : Hid (w12.heap[w8.heap.size + 1]? = some (.cells #[.int .i64 r10, .int .i64 r11, .int .u32 r12] 35 (0, 0))) := Lib.hid ((hb.block _ (by first | omega | (simp <;> omega))).trans (by repeat (first | exact K11_s12.out | exact blkal K11_s12.out _ | exact blkal (blkal K11_s12.out _) _ | exact blknew _ _ | exact blknew' _ _ _ (by simp) | with_reducible refine blkal ?_ _ | with_reducible refine blkdrew ?_))); have O12_3 := Lib.hid (O11_3.out.below (Nat.le_refl _) (bthen (by repeat (first | with_reducible exact Below.refl _ _ | with_reducible refine bal ?_ _ | with_reducible refine bdrew1 ?_)) hb)); have O12_4 := Lib.hid (O11_4.out.below (Nat.le_refl _) (bthen (by repeat (first | with_reducible exact Below.refl _ _ | with_reducible refine bal ?_ _ | with_reducible refine bdrew1 ?_)) hb)); have O12_6 := Lib.hid (O11_6.out.below (Nat.le_refl _) (bthen (by repeat (first | with_reducible exact Below.refl _ _ | with_reducible refine bal ?_ _ | with_reducible refine bdrew1 ?_)) hb)); have O12_7 := Lib.hid (O11_7.out.below (Nat.le_refl _) (bthen (by repeat (first | with_reducible exact Below.refl _ _ | with_reducible refine bal ?_ _ | with_reducible refine bdrew1 ?_)) hb)); have O12_11 := Lib.hid (O11_11.out.below (Nat.le_refl _) (bthen (by repeat (first | with_reducible exact Below.refl _ _ | with_reducible refine bal ?_ _ | with_reducible refine bdrew1 ?_)) hb)); have B12 : Hid (Below w.heap.size w w12) := Lib.hid (bthen (by repeat (first | with_reducible exact B11.out | with_reducible refine bal ?_ _ | with_reducible refine bdrew1 ?_)) hb); clear O11_3 O11_4 O11_6 O11_7 O11_11 K11_p0 K11_s6 K11_s7 K11_s9 K11_s11 K11_s12 B11 hb c11_p00 c11_p01 c11_p02 c11_p03 y11_p0 c11_s60 c11_s61 y11_s6 c11_s70 c11_s71 c11_s72 y11_s7 c11_s90 c11_s91 c11_s92 c11_s93 y11_s9 c11_s110 c11_s111 y11_s11 c11_s120 c11_s121 c11_s122 y11_s12; obtain ⟨c12_p00, c12_p01, c12_p02, c12_p03⟩ := blkc4 K12_p0.out; have y12_p0 : w.heap.size < w12.heap.size := blklt K12_p0.out; obtain ⟨c12_s60, c12_s61⟩ := blkc2 K12_s6.out; have y12_s6 : w5.heap.size < w12.heap.size := blklt K12_s6.out; obtain ⟨c12_s70, c12_s71, c12_s72⟩ := blkc3 K12_s7.out; have y12_s7 : w5.heap.size + 1 < w12.heap.size := blklt K12_s7.out; obtain ⟨c12_s90, c12_s91, c12_s92, c12_s93⟩ := blkc4 K12_s9.out; have y12_s9 : w6.heap.size < w12.heap.size := blklt K12_s9.out; obtain ⟨c12_s110, c12_s111⟩ := blkc2 K12_s11.out; have y12_s11 : w8.heap.size < w12.heap.size := blklt K12_s11.out; obtain ⟨c12_s120, c12_s121, c12_s122⟩ := blkc3 K12_s12.out; have y12_s12 : w8.heap.size + 1 < w12.heap.size := blklt K12_s12.out); go_wp2_with fail; refine hK.out _ _ ?_ (fun hHeld => ?_); (focus (simp [*, go_sem])); clear hK K; (try simp only [Act.put, List.setIfInBounds_toArray, List.set_cons_zero, List.set_cons_succ]); refine rg_take 4 (some 63) (v := ?_) rfl (by kernel_rfl) (by kernel_rfl) (by kernel_rfl) (by kernel_rfl) (fun _ _ _ h => h) (Or.inl ⟨by kernel_rfl, ?_⟩) (by assumption) ?_; rotate_left; (focus (intro w' hSw; (try dsimp only at hSw); go_simp; (try with_reducible rfl))); (try simp only [Act.put, List.setIfInBounds_toArray, List.set_cons_zero, List.set_cons_succ]); refine wpAnyH_done (by kernel_rfl) ?_ _)
      clear hHeld
      go_wp2_with fail
      refine Calls.mono (toGraphS_any _ bx0 _ (bh0.below (by repeat (first | with_reducible exact B12.out | with_reducible refine bal ?_ _ | with_reducible refine bdrew1 ?_))) (by omega)) ?_
      rintro e0 w13 ⟨A13, cap13, F13, rfl, hO, hb⟩
      have z13 : w12.heap.size + 0 ≤ w13.heap.size := (by have := hb.size; (try simp at this); omega)
      have K13_p0 : Hid (w13.heap[w.heap.size]? = some (.cells #[.int .i64 a0, .int .u32 a1, .int .i64 a2, .slice A_av3 ax3.length cap_av3] 27 (0, 0))) := Lib.hid ((hb.block _ (by first | omega | (simp <;> omega))).trans (by repeat (first | exact K12_p0.out | exact blkal K12_p0.out _ | exact blkal (blkal K12_p0.out _) _ | exact blknew _ _ | exact blknew' _ _ _ (by simp) | with_reducible refine blkal ?_ _ | with_reducible refine blkdrew ?_)))
      have K13_s6 : Hid (w13.heap[w5.heap.size]? = some (.cells #[.int .i64 r00, .int .i64 r01] 32 (0, 0))) := Lib.hid ((hb.block _ (by first | omega | (simp <;> omega))).trans (by repeat (first | exact K12_s6.out | exact blkal K12_s6.out _ | exact blkal (blkal K12_s6.out _) _ | exact blknew _ _ | exact blknew' _ _ _ (by simp) | with_reducible refine blkal ?_ _ | with_reducible refine blkdrew ?_)))
      have K13_s7 : Hid (w13.heap[w5.heap.size + 1]? = some (.cells #[.int .i64 r10, .int .i64 r11, .int .u32 r12] 35 (0, 0))) := Lib.hid ((hb.block _ (by first | omega | (simp <;> omega))).trans (by repeat (first | exact K12_s7.out | exact blkal K12_s7.out _ | exact blkal (blkal K12_s7.out _) _ | exact blknew _ _ | exact blknew' _ _ _ (by simp) | with_reducible refine blkal ?_ _ | with_reducible refine blkdrew ?_)))
      have K13_s9 : Hid (w13.heap[w6.heap.size]? = some (.cells #[.int .i64 a0, .int .u32 a1, .int .i64 a2, .slice A6 ax3.length cap6] 40 (0, 0))) := Lib.hid ((hb.block _ (by first | omega | (simp <;> omega))).trans (by repeat (first | exact K12_s9.out | exact blkal K12_s9.out _ | exact blkal (blkal K12_s9.out _) _ | exact blknew _ _ | exact blknew' _ _ _ (by simp) | with_reducible refine blkal ?_ _ | with_reducible refine blkdrew ?_)))
      have K13_s11 : Hid (w13.heap[w8.heap.size]? = some (.cells #[.int .i64 r00, .int .i64 r01] 32 (0, 0))) := Lib.hid ((hb.block _ (by first | omega | (simp <;> omega))).trans (by repeat (first | exact K12_s11.out | exact blkal K12_s11.out _ | exact blkal (blkal K12_s11.out _) _ | exact blknew _ _ | exact blknew' _ _ _ (by simp) | with_reducible refine blkal ?_ _ | with_reducible refine blkdrew ?_)))
      have K13_s12 : Hid (w13.heap[w8.heap.size + 1]? = some (.cells #[.int .i64 r10, .int .i64 r11, .int .u32 r12] 35 (0, 0))) := Lib.hid ((hb.block _ (by first | omega | (simp <;> omega))).trans (by repeat (first | exact K12_s12.out | exact blkal K12_s12.out _ | exact blkal (blkal K12_s12.out _) _ | exact blknew _ _ | exact blknew' _ _ _ (by simp) | with_reducible refine blkal ?_ _ | with_reducible refine blkdrew ?_)))
      have O13_3 := Lib.hid (O12_3.out.below (Nat.le_refl _) (bthen (by repeat (first | with_reducible exact Below.refl _ _ | with_reducible refine bal ?_ _ | with_reducible refine bdrew1 ?_)) hb))
      have O13_4 := Lib.hid (O12_4.out.below (Nat.le_refl _) (bthen (by repeat (first | with_reducible exact Below.refl _ _ | with_reducible refine bal ?_ _ | with_reducible refine bdrew1 ?_)) hb))
      have O13_6 := Lib.hid (O12_6.out.below (Nat.le_refl _) (bthen (by repeat (first | with_reducible exact Below.refl _ _ | with_reducible refine bal ?_ _ | with_reducible refine bdrew1 ?_)) hb))
      have O13_7 := Lib.hid (O12_7.out.below (Nat.le_refl _) (bthen (by repeat (first | with_reducible exact Below.refl _ _ | with_reducible refine bal ?_ _ | with_reducible refine bdrew1 ?_)) hb))
      have O13_11 := Lib.hid (O12_11.out.below (Nat.le_refl _) (bthen (by repeat (first | with_reducible exact Below.refl _ _ | with_reducible refine bal ?_ _ | with_reducible refine bdrew1 ?_)) hb))
      have B13 : Hid (Below w.heap.size w w13) := Lib.hid (bthen (by repeat (first | with_reducible exact B12.out | with_reducible refine bal ?_ _ | with_reducible refine bdrew1 ?_)) hb)
      have L13_13 : Hid (∀ b ∈ F13, w12.heap.size + 0 ≤ b ∧ b < w13.heap.size) := Lib.hid (fun b hm => ⟨by have := hO.ge b hm; (try simp at this); omega, hO.lt b hm⟩)
      have O13_13 := Lib.hid hO
      clear O12_3 O12_4 O12_6 O12_7 O12_11 K12_p0 K12_s6 K12_s7 K12_s9 K12_s11 K12_s12 hO B12 hb c12_p00 c12_p01 c12_p02 c12_p03 y12_p0 c12_s60 c12_s61 y12_s6 c12_s70 c12_s71 c12_s72 y12_s7 c12_s90 c12_s91 c12_s92 c12_s93 y12_s9 c12_s110 c12_s111 y12_s11 c12_s120 c12_s121 c12_s122 y12_s12
      obtain ⟨c13_p00, c13_p01, c13_p02, c13_p03⟩ := blkc4 K13_p0.out
      have y13_p0 : w.heap.size < w13.heap.size := blklt K13_p0.out
      obtain ⟨c13_s60, c13_s61⟩ := blkc2 K13_s6.out
      have y13_s6 : w5.heap.size < w13.heap.size := blklt K13_s6.out
      obtain ⟨c13_s70, c13_s71, c13_s72⟩ := blkc3 K13_s7.out
      have y13_s7 : w5.heap.size + 1 < w13.heap.size := blklt K13_s7.out
      obtain ⟨c13_s90, c13_s91, c13_s92, c13_s93⟩ := blkc4 K13_s9.out
      have y13_s9 : w6.heap.size < w13.heap.size := blklt K13_s9.out
      obtain ⟨c13_s110, c13_s111⟩ := blkc2 K13_s11.out
      have y13_s11 : w8.heap.size < w13.heap.size := blklt K13_s11.out
      obtain ⟨c13_s120, c13_s121, c13_s122⟩ := blkc3 K13_s12.out
      have y13_s12 : w8.heap.size + 1 < w13.heap.size := blklt K13_s12.out
      go_wp2_with fail
      refine Calls.mono (eqGraphS_same _ bx0 _ _ (O13_7.out.lst.below (by repeat (first | with_reducible exact Below.refl _ _ | with_reducible refine bal ?_ _ | with_reducible refine bdrew1 ?_))) (O13_13.out.lst.below (by repeat (first | with_reducible exact Below.refl _ _ | with_reducible refine bal ?_ _ | with_reducible refine bdrew1 ?_))) (by omega)) ?_
      rintro e0 w14 ⟨rfl, hb⟩
      have z14 : w13.heap.size + 0 ≤ w14.heap.size := (by have := hb.size; (try simp at this); omega)
      have K14_p0 : Hid (w14.heap[w.heap.size]? = some (.cells #[.int .i64 a0, .int .u32 a1, .int .i64 a2, .slice A_av3 ax3.length cap_av3] 27 (0, 0))) := Lib.hid ((hb.block _ (by first | omega | (simp <;> omega))).trans (by repeat (first | exact K13_p0.out | exact blkal K13_p0.out _ | exact blkal (blkal K13_p0.out _) _ | exact blknew _ _ | exact blknew' _ _ _ (by simp) | with_reducible refine blkal ?_ _ | with_reducible refine blkdrew ?_)))
      have K14_s6 : Hid (w14.heap[w5.heap.size]? = some (.cells #[.int .i64 r00, .int .i64 r01] 32 (0, 0))) := Lib.hid ((hb.block _ (by first | omega | (simp <;> omega))).trans (by repeat (first | exact K13_s6.out | exact blkal K13_s6.out _ | exact blkal (blkal K13_s6.out _) _ | exact blknew _ _ | exact blknew' _ _ _ (by simp) | with_reducible refine blkal ?_ _ | with_reducible refine blkdrew ?_)))
      have K14_s7 : Hid (w14.heap[w5.heap.size + 1]? = some (.cells #[.int .i64 r10, .int .i64 r11, .int .u32 r12] 35 (0, 0))) := Lib.hid ((hb.block _ (by first | omega | (simp <;> omega))).trans (by repeat (first | exact K13_s7.out | exact blkal K13_s7.out _ | exact blkal (blkal K13_s7.out _) _ | exact blknew _ _ | exact blknew' _ _ _ (by simp) | with_reducible refine blkal ?_ _ | with_reducible refine blkdrew ?_)))
      have K14_s9 : Hid (w14.heap[w6.heap.size]? = some (.cells #[.int .i64 a0, .int .u32 a1, .int .i64 a2, .slice A6 ax3.length cap6] 40 (0, 0))) := Lib.hid ((hb.block _ (by first | omega | (simp <;> omega))).trans (by repeat (first | exact K13_s9.out | exact blkal K13_s9.out _ | exact blkal (blkal K13_s9.out _) _ | exact blknew _ _ | exact blknew' _ _ _ (by simp) | with_reducible refine blkal ?_ _ | with_reducible refine blkdrew ?_)))
      have K14_s11 : Hid (w14.heap[w8.heap.size]? = some (.cells #[.int .i64 r00, .int .i64 r01] 32 (0, 0))) := Lib.hid ((hb.block _ (by first | omega | (simp <;> omega))).trans (by repeat (first | exact K13_s11.out | exact blkal K13_s11.out _ | exact blkal (blkal K13_s11.out _) _ | exact blknew _ _ | exact blknew' _ _ _ (by simp) | with_reducible refine blkal ?_ _ | with_reducible refine blkdrew ?_)))
      have K14_s12 : Hid (w14.heap[w8.heap.size + 1]? = some (.cells #[.int .i64 r10, .int .i64 r11, .int .u32 r12] 35 (0, 0))) := Lib.hid ((hb.block _ (by first | omega | (simp <;> omega))).trans (by repeat (first | exact K13_s12.out | exact blkal K13_s12.out _ | exact blkal (blkal K13_s12.out _) _ | exact blknew _ _ | exact blknew' _ _ _ (by simp) | with_reducible refine blkal ?_ _ | with_reducible refine blkdrew ?_)))
      have O14_3 := Lib.hid (O13_3.out.below (Nat.le_refl _) (bthen (by repeat (first | with_reducible exact Below.refl _ _ | with_reducible refine bal ?_ _ | with_reducible refine bdrew1 ?_)) hb))
      have O14_4 := Lib.hid (O13_4.out.below (Nat.le_refl _) (bthen (by repeat (first | with_reducible exact Below.refl _ _ | with_reducible refine bal ?_ _ | with_reducible refine bdrew1 ?_)) hb))
      have O14_6 := Lib.hid (O13_6.out.below (Nat.le_refl _) (bthen (by repeat (first | with_reducible exact Below.refl _ _ | with_reducible refine bal ?_ _ | with_reducible refine bdrew1 ?_)) hb))
      have O14_7 := Lib.hid (O13_7.out.below (Nat.le_refl _) (bthen (by repeat (first | with_reducible exact Below.refl _ _ | with_reducible refine bal ?_ _ | with_reducible refine bdrew1 ?_)) hb))
      have O14_11 := Lib.hid (O13_11.out.below (Nat.le_refl _) (bthen (by repeat (first | with_reducible exact Below.refl _ _ | with_reducible refine bal ?_ _ | with_reducible refine bdrew1 ?_)) hb))
      have O14_13 := Lib.hid (O13_13.out.below (Nat.le_refl _) (bthen (by repeat (first | with_reducible exact Below.refl _ _ | with_reducible refine bal ?_ _ | with_reducible refine bdrew1 ?_)) hb))
      have B14 : Hid (Below w.heap.size w w14) := Lib.hid (bthen (by repeat (first | with_reducible exact B13.out | with_reducible refine bal ?_ _ | with_reducible refine bdrew1 ?_)) hb)
      clear O13_3 O13_4 O13_6 O13_7 O13_11 O13_13 K13_p0 K13_s6 K13_s7 K13_s9 K13_s11 K13_s12 B13 hb c13_p00 c13_p01 c13_p02 c13_p03 y13_p0 c13_s60 c13_s61 y13_s6 c13_s70 c13_s71 c13_s72 y13_s7 c13_s90 c13_s91 c13_s92 c13_s93 y13_s9 c13_s110 c13_s111 y13_s11 c13_s120 c13_s121 c13_s122 y13_s12
      obtain ⟨c14_p00, c14_p01, c14_p02, c14_p03⟩ := blkc4 K14_p0.out
      have y14_p0 : w.heap.size < w14.heap.size := blklt K14_p0.out
      obtain ⟨c14_s60, c14_s61⟩ := blkc2 K14_s6.out
      have y14_s6 : w5.heap.size < w14.heap.size := blklt K14_s6.out
      obtain ⟨c14_s70, c14_s71, c14_s72⟩ := blkc3 K14_s7.out
      have y14_s7 : w5.heap.size + 1 < w14.heap.size := blklt K14_s7.out
      obtain ⟨c14_s90, c14_s91, c14_s92, c14_s93⟩ := blkc4 K14_s9.out
      have y14_s9 : w6.heap.size < w14.heap.size := blklt K14_s9.out
      obtain ⟨c14_s110, c14_s111⟩ := blkc2 K14_s11.out
      have y14_s11 : w8.heap.size < w14.heap.size := blklt K14_s11.out
      obtain ⟨c14_s120, c14_s121, c14_s122⟩ := blkc3 K14_s12.out
      have y14_s12 : w8.heap.size + 1 < w14.heap.size := blklt K14_s12.out
      go_wp2_with fail
      exact bodyPost_ret (v := .bool true) (by simp [results, Tryz.results3, go_sem]) rfl ⟨rfl, (by first | exact B14.out | exact bal B14.out _ | exact bal (bal B14.out _) _)⟩
end Go.Proofs.YtkfjlimlodbcgaaGreat

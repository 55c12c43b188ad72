/- The walk of FnExactAllOnes, with what both sides return as hypotheses. -/
import Derived.Test.YtfdobpeekipafaaSl
import Derived.Test.YtfdobpeekipafaaMSum
import Derived.Test.YtfdobpeekipafaaTSum
namespace Go.Proofs.Ytfdobpeekipafaa
open Go.ChangeShapes Go.WideShapes Go.ChangeAt Go.RowKit
set_option linter.unusedVariables false
set_option linter.unusedSimpArgs false
attribute [local irreducible] Calls
set_option maxHeartbeats 4000000 in
set_option maxRecDepth 100000 in
theorem walkAllOnes (a0 : Int) (a1 : Int) (b0 : Int) (r00 : Int) (r01 : Int) (r02 : Int) (R03 : List ((Int × (Int × Int)) × (Int × Int))) (r10 : Int) (mR03 : R03.length ≤ 100000) (HI0 : ∀ (W : World), Calls Try.prog 11 #[.agg #[.int .i64 a0, .int .u32 a1], .int .i64 b0] W fun e W' => ∃ A_03 cap_03 F_03, e = .returned (.tuple #[.agg #[.int .i64 r00, .int .u32 r01, .int .i64 r02, .slice A_03 R03.length cap_03], .int .i64 r10]) ∧ Own shTerm W.heap.size W' R03 (.slice A_03 R03.length cap_03) F_03 ∧ Below W.heap.size W W') (HS0 : ∀ (W : World), Calls Try.prog 9 #[.agg #[.int .i64 a0, .int .u32 a1], .int .i64 b0] W fun e W' => ∃ A_03 cap_03 F_03, e = .returned (.tuple #[.agg #[.int .i64 r00, .int .u32 r01, .int .i64 r02, .slice A_03 R03.length cap_03], .int .i64 r10]) ∧ Own shTerm W.heap.size W' R03 (.slice A_03 R03.length cap_03) F_03 ∧ Below W.heap.size W W') (w : World) :
    Calls Try.prog 3 #[.agg #[.int .i64 a0, .int .u32 a1], .int .i64 b0] w fun e0 w' => e0 = .returned (.bool true) ∧ Below w.heap.size w w' := by
  have HI := Lib.hid HI0
  have HS := Lib.hid HS0
  clear HI0 HS0
  have qr00 : (r00 != r00) = false := by simp
  have qr01 : (r01 != r01) = false := by simp
  have qr02 : (r02 != r02) = false := by simp
  have qr10 : (r10 != r10) = false := by simp
  go_enter Try.func3, Try.ntmps3
  go_wp2_with fail
  refine Calls.mono (toGraph_any _ _ _) ?_
  rintro e0 w1 ⟨rfl, hb⟩
  have z1 : w.heap.size + 1 ≤ w1.heap.size := (by have := hb.size; (try simp at this); omega)
  have K1_p0 : Hid (w1.heap[w.heap.size]? = some (.cells #[.int .i64 a0, .int .u32 a1] 24 (0, 0))) := Lib.hid ((hb.block _ (by first | omega | (simp <;> omega))).trans (by repeat (first | exact blknew _ _ | exact blknew' _ _ _ (by simp) | with_reducible refine blkal ?_ _ | with_reducible refine blkdrew ?_)))
  have B1 : Hid (Below w.heap.size w w1) := Lib.hid (bthen (by (try with_reducible refine bsz ?_); repeat (first | with_reducible exact Below.refl _ _ | ((with_reducible refine bpre ?_); (try simp only [Array.append_assoc]); repeat (first | with_reducible exact Pre.refl _ | with_reducible exact Pre.base _ _ | with_reducible refine Pre.cons _ ?_)) | with_reducible assumption | ((with_reducible refine bsetr ?_); rfl) | with_reducible refine Below.setCell ?_ (by simp <;> omega) _ | with_reducible refine bpl ?_ _ _ | with_reducible refine bal ?_ _ | with_reducible refine bdrew1 ?_ | with_reducible refine bdrew ?_ _)) hb)
  clear hb
  obtain ⟨c1_p00, c1_p01⟩ := blkc2 K1_p0.out
  have y1_p0 : w.heap.size < w1.heap.size := blklt K1_p0.out
  go_wp2_with fail
  refine Calls.mono (HS.out _  ) ?_
  rintro e0 w2 ⟨A2_03, cap2_03, F2_03, rfl, hO_03, hb⟩
  have z2 : w1.heap.size + 0 ≤ w2.heap.size := (by have := hb.size; (try simp at this); omega)
  have K2_p0 : Hid (w2.heap[w.heap.size]? = some (.cells #[.int .i64 a0, .int .u32 a1] 24 (0, 0))) := Lib.hid ((hb.block _ (by first | omega | (simp <;> omega))).trans (by repeat (first | exact K1_p0.out | exact blknew _ _ | exact blknew' _ _ _ (by simp) | with_reducible refine blkal ?_ _ | with_reducible refine blkdrew ?_)))
  have B2 : Hid (Below w.heap.size w w2) := Lib.hid (bthen (by repeat (first | with_reducible exact B1.out | with_reducible refine bal ?_ _ | with_reducible refine bdrew1 ?_)) hb)
  have L2_2_03 : Hid (∀ b ∈ F2_03, w1.heap.size + 0 ≤ b ∧ b < w2.heap.size) := Lib.hid (fun b hm => ⟨by have := hO_03.ge b hm; (try simp at this); omega, hO_03.lt b hm⟩)
  have O2_2_03 := Lib.hid hO_03
  clear K1_p0 hO_03 B1 hb c1_p00 c1_p01 y1_p0
  obtain ⟨c2_p00, c2_p01⟩ := blkc2 K2_p0.out
  have y2_p0 : w.heap.size < w2.heap.size := blklt K2_p0.out
  go_wp2_with fail
  refine Calls.mono (toGraph_any _ _ _) ?_
  rintro e0 w3 ⟨rfl, hb⟩
  have z3 : w2.heap.size + 1 ≤ w3.heap.size := (by have := hb.size; (try simp at this); omega)
  have K3_p0 : Hid (w3.heap[w.heap.size]? = some (.cells #[.int .i64 a0, .int .u32 a1] 24 (0, 0))) := Lib.hid ((hb.block _ (by first | omega | (simp <;> omega))).trans (by repeat (first | exact K2_p0.out | exact blknew _ _ | exact blknew' _ _ _ (by simp) | with_reducible refine blkal ?_ _ | with_reducible refine blkdrew ?_)))
  have K3_s5 : Hid (w3.heap[w2.heap.size]? = some (.cells #[.int .i64 r00, .int .u32 r01, .int .i64 r02, .slice A2_03 R03.length cap2_03] 28 (0, 0))) := Lib.hid ((hb.block _ (by first | omega | (simp <;> omega))).trans (by repeat (first | exact blknew _ _ | exact blknew' _ _ _ (by simp) | with_reducible refine blkal ?_ _ | with_reducible refine blkdrew ?_)))
  have O3_2_03 := Lib.hid (O2_2_03.out.below (Nat.le_refl _) (bthen (by repeat (first | with_reducible exact Below.refl _ _ | with_reducible refine bal ?_ _ | with_reducible refine bdrew1 ?_)) hb))
  have B3 : Hid (Below w.heap.size w w3) := Lib.hid (bthen (by repeat (first | with_reducible exact B2.out | with_reducible refine bal ?_ _ | with_reducible refine bdrew1 ?_)) hb)
  clear O2_2_03 K2_p0 B2 hb c2_p00 c2_p01 y2_p0
  obtain ⟨c3_p00, c3_p01⟩ := blkc2 K3_p0.out
  have y3_p0 : w.heap.size < w3.heap.size := blklt K3_p0.out
  obtain ⟨c3_s50, c3_s51, c3_s52, c3_s53⟩ := blkc4 K3_s5.out
  have y3_s5 : w2.heap.size < w3.heap.size := blklt K3_s5.out
  go_wp2_with fail
  refine Calls.mono (HI.out _  ) ?_
  rintro e0 w4 ⟨A4_03, cap4_03, F4_03, rfl, hO_03, hb⟩
  have z4 : w3.heap.size + 0 ≤ w4.heap.size := (by have := hb.size; (try simp at this); omega)
  have K4_p0 : Hid (w4.heap[w.heap.size]? = some (.cells #[.int .i64 a0, .int .u32 a1] 24 (0, 0))) := Lib.hid ((hb.block _ (by first | omega | (simp <;> omega))).trans (by repeat (first | exact K3_p0.out | exact blknew _ _ | exact blknew' _ _ _ (by simp) | with_reducible refine blkal ?_ _ | with_reducible refine blkdrew ?_)))
  have K4_s5 : Hid (w4.heap[w2.heap.size]? = some (.cells #[.int .i64 r00, .int .u32 r01, .int .i64 r02, .slice A2_03 R03.length cap2_03] 28 (0, 0))) := Lib.hid ((hb.block _ (by first | omega | (simp <;> omega))).trans (by repeat (first | exact K3_s5.out | exact blknew _ _ | exact blknew' _ _ _ (by simp) | with_reducible refine blkal ?_ _ | with_reducible refine blkdrew ?_)))
  have O4_2_03 := Lib.hid (O3_2_03.out.below (Nat.le_refl _) (bthen (by repeat (first | with_reducible exact Below.refl _ _ | with_reducible refine bal ?_ _ | with_reducible refine bdrew1 ?_)) hb))
  have B4 : Hid (Below w.heap.size w w4) := Lib.hid (bthen (by repeat (first | with_reducible exact B3.out | with_reducible refine bal ?_ _ | with_reducible refine bdrew1 ?_)) hb)
  have L4_4_03 : Hid (∀ b ∈ F4_03, w3.heap.size + 0 ≤ b ∧ b < w4.heap.size) := Lib.hid (fun b hm => ⟨by have := hO_03.ge b hm; (try simp at this); omega, hO_03.lt b hm⟩)
  have O4_4_03 := Lib.hid hO_03
  clear O3_2_03 K3_p0 K3_s5 hO_03 B3 hb c3_p00 c3_p01 y3_p0 c3_s50 c3_s51 c3_s52 c3_s53 y3_s5
  obtain ⟨c4_p00, c4_p01⟩ := blkc2 K4_p0.out
  have y4_p0 : w.heap.size < w4.heap.size := blklt K4_p0.out
  obtain ⟨c4_s50, c4_s51, c4_s52, c4_s53⟩ := blkc4 K4_s5.out
  have y4_s5 : w2.heap.size < w4.heap.size := blklt K4_s5.out
  go_wp2_with fail
  refine Calls.mono (eqFlagSum_same _ _ _ _ R03 _ _ (O4_4_03.out.lst.below (by repeat (first | with_reducible exact Below.refl _ _ | with_reducible refine bal ?_ _ | with_reducible refine bdrew1 ?_))) (O4_2_03.out.lst.below (by repeat (first | with_reducible exact Below.refl _ _ | with_reducible refine bal ?_ _ | with_reducible refine bdrew1 ?_))) (by omega)) ?_
  rintro e0 w5 ⟨rfl, hb⟩
  have z5 : w4.heap.size + 1 ≤ w5.heap.size := (by have := hb.size; (try simp at this); omega)
  have K5_p0 : Hid (w5.heap[w.heap.size]? = some (.cells #[.int .i64 a0, .int .u32 a1] 24 (0, 0))) := Lib.hid ((hb.block _ (by first | omega | (simp <;> omega))).trans (by repeat (first | exact K4_p0.out | exact blknew _ _ | exact blknew' _ _ _ (by simp) | with_reducible refine blkal ?_ _ | with_reducible refine blkdrew ?_)))
  have K5_s5 : Hid (w5.heap[w2.heap.size]? = some (.cells #[.int .i64 r00, .int .u32 r01, .int .i64 r02, .slice A2_03 R03.length cap2_03] 28 (0, 0))) := Lib.hid ((hb.block _ (by first | omega | (simp <;> omega))).trans (by repeat (first | exact K4_s5.out | exact blknew _ _ | exact blknew' _ _ _ (by simp) | with_reducible refine blkal ?_ _ | with_reducible refine blkdrew ?_)))
  have K5_s7 : Hid (w5.heap[w4.heap.size]? = some (.cells #[.int .i64 r00, .int .u32 r01, .int .i64 r02, .slice A4_03 R03.length cap4_03] 28 (0, 0))) := Lib.hid ((hb.block _ (by first | omega | (simp <;> omega))).trans (by repeat (first | exact blknew _ _ | exact blknew' _ _ _ (by simp) | with_reducible refine blkal ?_ _ | with_reducible refine blkdrew ?_)))
  have O5_2_03 := Lib.hid (O4_2_03.out.below (Nat.le_refl _) (bthen (by repeat (first | with_reducible exact Below.refl _ _ | with_reducible refine bal ?_ _ | with_reducible refine bdrew1 ?_)) hb))
  have O5_4_03 := Lib.hid (O4_4_03.out.below (Nat.le_refl _) (bthen (by repeat (first | with_reducible exact Below.refl _ _ | with_reducible refine bal ?_ _ | with_reducible refine bdrew1 ?_)) hb))
  have B5 : Hid (Below w.heap.size w w5) := Lib.hid (bthen (by repeat (first | with_reducible exact B4.out | with_reducible refine bal ?_ _ | with_reducible refine bdrew1 ?_)) hb)
  clear O4_2_03 O4_4_03 K4_p0 K4_s5 B4 hb c4_p00 c4_p01 y4_p0 c4_s50 c4_s51 c4_s52 c4_s53 y4_s5
  obtain ⟨c5_p00, c5_p01⟩ := blkc2 K5_p0.out
  have y5_p0 : w.heap.size < w5.heap.size := blklt K5_p0.out
  obtain ⟨c5_s50, c5_s51, c5_s52, c5_s53⟩ := blkc4 K5_s5.out
  have y5_s5 : w2.heap.size < w5.heap.size := blklt K5_s5.out
  obtain ⟨c5_s70, c5_s71, c5_s72, c5_s73⟩ := blkc4 K5_s7.out
  have y5_s7 : w4.heap.size < w5.heap.size := blklt K5_s7.out
  go_wp2_with fail
  refine Calls.mono (markFlagSum_any _ _ _ _ _ R03 _ _ _ (O5_4_03.out.below (Nat.le_refl _) (by repeat (first | with_reducible exact Below.refl _ _ | with_reducible refine bal ?_ _ | with_reducible refine bdrew1 ?_))) (by omega) (by omega)) ?_
  rintro e0 w6 ⟨rfl, hO, hC⟩
  have z6 : w5.heap.size + 0 ≤ w6.heap.size := (by have := hC.2.2.2.1; (try simp at this); omega)
  have N6 := L4_4_03.out
  have K6_p0 : Hid (w6.heap[w.heap.size]? = some (.cells #[.int .i64 a0, .int .u32 a1] 24 (0, 0))) := Lib.hid ((hC.2.2.2.2 _ (by first | omega | (simp <;> omega)) (fun hm => by first | (have := N6 _ hm; omega))).trans (by repeat (first | exact K5_p0.out | exact blknew _ _ | exact blknew' _ _ _ (by simp) | with_reducible refine blkal ?_ _ | with_reducible refine blkdrew ?_)))
  have K6_s5 : Hid (w6.heap[w2.heap.size]? = some (.cells #[.int .i64 r00, .int .u32 r01, .int .i64 r02, .slice A2_03 R03.length cap2_03] 28 (0, 0))) := Lib.hid ((hC.2.2.2.2 _ (by first | omega | (simp <;> omega)) (fun hm => by first | (have := N6 _ hm; omega))).trans (by repeat (first | exact K5_s5.out | exact blknew _ _ | exact blknew' _ _ _ (by simp) | with_reducible refine blkal ?_ _ | with_reducible refine blkdrew ?_)))
  have K6_s7 : Hid (w6.heap[w4.heap.size]? = some (.cells #[.int .i64 r00, .int .u32 r01, .int .i64 r02, .slice A4_03 R03.length cap4_03] 28 (0, 0))) := Lib.hid ((hC.2.2.2.2 _ (by first | omega | (simp <;> omega)) (fun hm => by first | (have := N6 _ hm; omega))).trans (by repeat (first | exact K5_s7.out | exact blknew _ _ | exact blknew' _ _ _ (by simp) | with_reducible refine blkal ?_ _ | with_reducible refine blkdrew ?_)))
  have O6_2_03 := Lib.hid (Own.bchgR O5_2_03.out (by repeat (first | with_reducible exact Below.refl _ _ | with_reducible refine bal ?_ _ | with_reducible refine bdrew1 ?_)) hC (fun b g1 g2 => by have := L2_2_03.out b g1; have := N6 b g2; omega))
  have O6_4_03 := Lib.hid hO
  have B6 : Hid (Below w.heap.size w w6) := Lib.hid (Below.trans (by repeat (first | with_reducible exact B5.out | with_reducible refine bal ?_ _ | with_reducible refine bdrew1 ?_)) (hC.below (B := w.heap.size) (fun b g2 => by have := N6 b g2; omega) (by first | omega | (simp; omega))))
  clear O5_2_03 O5_4_03 K5_p0 K5_s5 K5_s7 B5 hC N6 c5_p00 c5_p01 y5_p0 c5_s50 c5_s51 c5_s52 c5_s53 y5_s5 c5_s70 c5_s71 c5_s72 c5_s73 y5_s7
  obtain ⟨c6_p00, c6_p01⟩ := blkc2 K6_p0.out
  have y6_p0 : w.heap.size < w6.heap.size := blklt K6_p0.out
  obtain ⟨c6_s50, c6_s51, c6_s52, c6_s53⟩ := blkc4 K6_s5.out
  have y6_s5 : w2.heap.size < w6.heap.size := blklt K6_s5.out
  obtain ⟨c6_s70, c6_s71, c6_s72, c6_s73⟩ := blkc4 K6_s7.out
  have y6_s7 : w4.heap.size < w6.heap.size := blklt K6_s7.out
  have hk6 : (0 : Int) ≤ 1 + 5 * (R03.length : Int) := (by omega)
  have hq6 : ((1 + 5 * (R03.length : Int)) != (1 + 5 * (R03.length : Int))) = false := (by simp)
  go_wp2_with fail
  refine Calls.mono (heldFlagSum_any _ _ _ _ R03.length _ _ (O6_4_03.out.lst.below (by repeat (first | with_reducible exact Below.refl _ _ | with_reducible refine bal ?_ _ | with_reducible refine bdrew1 ?_))) (by omega) (by omega)) ?_
  rintro e0 w7 ⟨rfl, hb⟩
  have z7 : w6.heap.size + 0 ≤ w7.heap.size := (by have := hb.size; (try simp at this); omega)
  have K7_p0 : Hid (w7.heap[w.heap.size]? = some (.cells #[.int .i64 a0, .int .u32 a1] 24 (0, 0))) := Lib.hid ((hb.block _ (by first | omega | (simp <;> omega))).trans (by repeat (first | exact K6_p0.out | exact blknew _ _ | exact blknew' _ _ _ (by simp) | with_reducible refine blkal ?_ _ | with_reducible refine blkdrew ?_)))
  have K7_s5 : Hid (w7.heap[w2.heap.size]? = some (.cells #[.int .i64 r00, .int .u32 r01, .int .i64 r02, .slice A2_03 R03.length cap2_03] 28 (0, 0))) := Lib.hid ((hb.block _ (by first | omega | (simp <;> omega))).trans (by repeat (first | exact K6_s5.out | exact blknew _ _ | exact blknew' _ _ _ (by simp) | with_reducible refine blkal ?_ _ | with_reducible refine blkdrew ?_)))
  have K7_s7 : Hid (w7.heap[w4.heap.size]? = some (.cells #[.int .i64 r00, .int .u32 r01, .int .i64 r02, .slice A4_03 R03.length cap4_03] 28 (0, 0))) := Lib.hid ((hb.block _ (by first | omega | (simp <;> omega))).trans (by repeat (first | exact K6_s7.out | exact blknew _ _ | exact blknew' _ _ _ (by simp) | with_reducible refine blkal ?_ _ | with_reducible refine blkdrew ?_)))
  have O7_2_03 := Lib.hid (O6_2_03.out.below (Nat.le_refl _) (bthen (by repeat (first | with_reducible exact Below.refl _ _ | with_reducible refine bal ?_ _ | with_reducible refine bdrew1 ?_)) hb))
  have O7_4_03 := Lib.hid (O6_4_03.out.below (Nat.le_refl _) (bthen (by repeat (first | with_reducible exact Below.refl _ _ | with_reducible refine bal ?_ _ | with_reducible refine bdrew1 ?_)) hb))
  have B7 : Hid (Below w.heap.size w w7) := Lib.hid (bthen (by repeat (first | with_reducible exact B6.out | with_reducible refine bal ?_ _ | with_reducible refine bdrew1 ?_)) hb)
  clear O6_2_03 O6_4_03 K6_p0 K6_s5 K6_s7 B6 hb c6_p00 c6_p01 y6_p0 c6_s50 c6_s51 c6_s52 c6_s53 y6_s5 c6_s70 c6_s71 c6_s72 c6_s73 y6_s7
  obtain ⟨c7_p00, c7_p01⟩ := blkc2 K7_p0.out
  have y7_p0 : w.heap.size < w7.heap.size := blklt K7_p0.out
  obtain ⟨c7_s50, c7_s51, c7_s52, c7_s53⟩ := blkc4 K7_s5.out
  have y7_s5 : w2.heap.size < w7.heap.size := blklt K7_s5.out
  obtain ⟨c7_s70, c7_s71, c7_s72, c7_s73⟩ := blkc4 K7_s7.out
  have y7_s7 : w4.heap.size < w7.heap.size := blklt K7_s7.out
  go_wp2_with fail
  refine Calls.mono (toGraph_any _ _ _) ?_
  rintro e0 w8 ⟨rfl, hb⟩
  have z8 : w7.heap.size + 0 ≤ w8.heap.size := (by have := hb.size; (try simp at this); omega)
  have K8_p0 : Hid (w8.heap[w.heap.size]? = some (.cells #[.int .i64 a0, .int .u32 a1] 24 (0, 0))) := Lib.hid ((hb.block _ (by first | omega | (simp <;> omega))).trans (by repeat (first | exact K7_p0.out | exact blknew _ _ | exact blknew' _ _ _ (by simp) | with_reducible refine blkal ?_ _ | with_reducible refine blkdrew ?_)))
  have K8_s5 : Hid (w8.heap[w2.heap.size]? = some (.cells #[.int .i64 r00, .int .u32 r01, .int .i64 r02, .slice A2_03 R03.length cap2_03] 28 (0, 0))) := Lib.hid ((hb.block _ (by first | omega | (simp <;> omega))).trans (by repeat (first | exact K7_s5.out | exact blknew _ _ | exact blknew' _ _ _ (by simp) | with_reducible refine blkal ?_ _ | with_reducible refine blkdrew ?_)))
  have K8_s7 : Hid (w8.heap[w4.heap.size]? = some (.cells #[.int .i64 r00, .int .u32 r01, .int .i64 r02, .slice A4_03 R03.length cap4_03] 28 (0, 0))) := Lib.hid ((hb.block _ (by first | omega | (simp <;> omega))).trans (by repeat (first | exact K7_s7.out | exact blknew _ _ | exact blknew' _ _ _ (by simp) | with_reducible refine blkal ?_ _ | with_reducible refine blkdrew ?_)))
  have O8_2_03 := Lib.hid (O7_2_03.out.below (Nat.le_refl _) (bthen (by repeat (first | with_reducible exact Below.refl _ _ | with_reducible refine bal ?_ _ | with_reducible refine bdrew1 ?_)) hb))
  have O8_4_03 := Lib.hid (O7_4_03.out.below (Nat.le_refl _) (bthen (by repeat (first | with_reducible exact Below.refl _ _ | with_reducible refine bal ?_ _ | with_reducible refine bdrew1 ?_)) hb))
  have B8 : Hid (Below w.heap.size w w8) := Lib.hid (bthen (by repeat (first | with_reducible exact B7.out | with_reducible refine bal ?_ _ | with_reducible refine bdrew1 ?_)) hb)
  clear O7_2_03 O7_4_03 K7_p0 K7_s5 K7_s7 B7 hb c7_p00 c7_p01 y7_p0 c7_s50 c7_s51 c7_s52 c7_s53 y7_s5 c7_s70 c7_s71 c7_s72 c7_s73 y7_s7
  obtain ⟨c8_p00, c8_p01⟩ := blkc2 K8_p0.out
  have y8_p0 : w.heap.size < w8.heap.size := blklt K8_p0.out
  obtain ⟨c8_s50, c8_s51, c8_s52, c8_s53⟩ := blkc4 K8_s5.out
  have y8_s5 : w2.heap.size < w8.heap.size := blklt K8_s5.out
  obtain ⟨c8_s70, c8_s71, c8_s72, c8_s73⟩ := blkc4 K8_s7.out
  have y8_s7 : w4.heap.size < w8.heap.size := blklt K8_s7.out
  go_wp2_with fail
  refine Calls.mono (HI.out _  ) ?_
  rintro e0 w9 ⟨A9_03, cap9_03, F9_03, rfl, hO_03, hb⟩
  have z9 : w8.heap.size + 0 ≤ w9.heap.size := (by have := hb.size; (try simp at this); omega)
  have K9_p0 : Hid (w9.heap[w.heap.size]? = some (.cells #[.int .i64 a0, .int .u32 a1] 24 (0, 0))) := Lib.hid ((hb.block _ (by first | omega | (simp <;> omega))).trans (by repeat (first | exact K8_p0.out | exact blknew _ _ | exact blknew' _ _ _ (by simp) | with_reducible refine blkal ?_ _ | with_reducible refine blkdrew ?_)))
  have K9_s5 : Hid (w9.heap[w2.heap.size]? = some (.cells #[.int .i64 r00, .int .u32 r01, .int .i64 r02, .slice A2_03 R03.length cap2_03] 28 (0, 0))) := Lib.hid ((hb.block _ (by first | omega | (simp <;> omega))).trans (by repeat (first | exact K8_s5.out | exact blknew _ _ | exact blknew' _ _ _ (by simp) | with_reducible refine blkal ?_ _ | with_reducible refine blkdrew ?_)))
  have K9_s7 : Hid (w9.heap[w4.heap.size]? = some (.cells #[.int .i64 r00, .int .u32 r01, .int .i64 r02, .slice A4_03 R03.length cap4_03] 28 (0, 0))) := Lib.hid ((hb.block _ (by first | omega | (simp <;> omega))).trans (by repeat (first | exact K8_s7.out | exact blknew _ _ | exact blknew' _ _ _ (by simp) | with_reducible refine blkal ?_ _ | with_reducible refine blkdrew ?_)))
  have O9_2_03 := Lib.hid (O8_2_03.out.below (Nat.le_refl _) (bthen (by repeat (first | with_reducible exact Below.refl _ _ | with_reducible refine bal ?_ _ | with_reducible refine bdrew1 ?_)) hb))
  have O9_4_03 := Lib.hid (O8_4_03.out.below (Nat.le_refl _) (bthen (by repeat (first | with_reducible exact Below.refl _ _ | with_reducible refine bal ?_ _ | with_reducible refine bdrew1 ?_)) hb))
  have B9 : Hid (Below w.heap.size w w9) := Lib.hid (bthen (by repeat (first | with_reducible exact B8.out | with_reducible refine bal ?_ _ | with_reducible refine bdrew1 ?_)) hb)
  have L9_9_03 : Hid (∀ b ∈ F9_03, w8.heap.size + 0 ≤ b ∧ b < w9.heap.size) := Lib.hid (fun b hm => ⟨by have := hO_03.ge b hm; (try simp at this); omega, hO_03.lt b hm⟩)
  have O9_9_03 := Lib.hid hO_03
  clear O8_2_03 O8_4_03 K8_p0 K8_s5 K8_s7 hO_03 B8 hb c8_p00 c8_p01 y8_p0 c8_s50 c8_s51 c8_s52 c8_s53 y8_s5 c8_s70 c8_s71 c8_s72 c8_s73 y8_s7
  obtain ⟨c9_p00, c9_p01⟩ := blkc2 K9_p0.out
  have y9_p0 : w.heap.size < w9.heap.size := blklt K9_p0.out
  obtain ⟨c9_s50, c9_s51, c9_s52, c9_s53⟩ := blkc4 K9_s5.out
  have y9_s5 : w2.heap.size < w9.heap.size := blklt K9_s5.out
  obtain ⟨c9_s70, c9_s71, c9_s72, c9_s73⟩ := blkc4 K9_s7.out
  have y9_s7 : w4.heap.size < w9.heap.size := blklt K9_s7.out
  go_wp2_with fail
  refine Calls.mono (eqFlagSum_same _ _ _ _ R03 _ _ (O9_9_03.out.lst.below (by repeat (first | with_reducible exact Below.refl _ _ | with_reducible refine bal ?_ _ | with_reducible refine bdrew1 ?_))) (O9_2_03.out.lst.below (by repeat (first | with_reducible exact Below.refl _ _ | with_reducible refine bal ?_ _ | with_reducible refine bdrew1 ?_))) (by omega)) ?_
  rintro e0 w10 ⟨rfl, hb⟩
  have z10 : w9.heap.size + 1 ≤ w10.heap.size := (by have := hb.size; (try simp at this); omega)
  have K10_p0 : Hid (w10.heap[w.heap.size]? = some (.cells #[.int .i64 a0, .int .u32 a1] 24 (0, 0))) := Lib.hid ((hb.block _ (by first | omega | (simp <;> omega))).trans (by repeat (first | exact K9_p0.out | exact blknew _ _ | exact blknew' _ _ _ (by simp) | with_reducible refine blkal ?_ _ | with_reducible refine blkdrew ?_)))
  have K10_s5 : Hid (w10.heap[w2.heap.size]? = some (.cells #[.int .i64 r00, .int .u32 r01, .int .i64 r02, .slice A2_03 R03.length cap2_03] 28 (0, 0))) := Lib.hid ((hb.block _ (by first | omega | (simp <;> omega))).trans (by repeat (first | exact K9_s5.out | exact blknew _ _ | exact blknew' _ _ _ (by simp) | with_reducible refine blkal ?_ _ | with_reducible refine blkdrew ?_)))
  have K10_s7 : Hid (w10.heap[w4.heap.size]? = some (.cells #[.int .i64 r00, .int .u32 r01, .int .i64 r02, .slice A4_03 R03.length cap4_03] 28 (0, 0))) := Lib.hid ((hb.block _ (by first | omega | (simp <;> omega))).trans (by repeat (first | exact K9_s7.out | exact blknew _ _ | exact blknew' _ _ _ (by simp) | with_reducible refine blkal ?_ _ | with_reducible refine blkdrew ?_)))
  have K10_s11 : Hid (w10.heap[w9.heap.size]? = some (.cells #[.int .i64 r00, .int .u32 r01, .int .i64 r02, .slice A9_03 R03.length cap9_03] 28 (0, 0))) := Lib.hid ((hb.block _ (by first | omega | (simp <;> omega))).trans (by repeat (first | exact blknew _ _ | exact blknew' _ _ _ (by simp) | with_reducible refine blkal ?_ _ | with_reducible refine blkdrew ?_)))
  have O10_2_03 := Lib.hid (O9_2_03.out.below (Nat.le_refl _) (bthen (by repeat (first | with_reducible exact Below.refl _ _ | with_reducible refine bal ?_ _ | with_reducible refine bdrew1 ?_)) hb))
  have O10_4_03 := Lib.hid (O9_4_03.out.below (Nat.le_refl _) (bthen (by repeat (first | with_reducible exact Below.refl _ _ | with_reducible refine bal ?_ _ | with_reducible refine bdrew1 ?_)) hb))
  have O10_9_03 := Lib.hid (O9_9_03.out.below (Nat.le_refl _) (bthen (by repeat (first | with_reducible exact Below.refl _ _ | with_reducible refine bal ?_ _ | with_reducible refine bdrew1 ?_)) hb))
  have B10 : Hid (Below w.heap.size w w10) := Lib.hid (bthen (by repeat (first | with_reducible exact B9.out | with_reducible refine bal ?_ _ | with_reducible refine bdrew1 ?_)) hb)
  clear O9_2_03 O9_4_03 O9_9_03 K9_p0 K9_s5 K9_s7 B9 hb c9_p00 c9_p01 y9_p0 c9_s50 c9_s51 c9_s52 c9_s53 y9_s5 c9_s70 c9_s71 c9_s72 c9_s73 y9_s7
  obtain ⟨c10_p00, c10_p01⟩ := blkc2 K10_p0.out
  have y10_p0 : w.heap.size < w10.heap.size := blklt K10_p0.out
  obtain ⟨c10_s50, c10_s51, c10_s52, c10_s53⟩ := blkc4 K10_s5.out
  have y10_s5 : w2.heap.size < w10.heap.size := blklt K10_s5.out
  obtain ⟨c10_s70, c10_s71, c10_s72, c10_s73⟩ := blkc4 K10_s7.out
  have y10_s7 : w4.heap.size < w10.heap.size := blklt K10_s7.out
  obtain ⟨c10_s110, c10_s111, c10_s112, c10_s113⟩ := blkc4 K10_s11.out
  have y10_s11 : w9.heap.size < w10.heap.size := blklt K10_s11.out
  go_wp2_with fail
  refine Calls.mono (heldFlagSum_any _ _ _ _ R03.length _ _ (O10_4_03.out.lst.below (by repeat (first | with_reducible exact Below.refl _ _ | with_reducible refine bal ?_ _ | with_reducible refine bdrew1 ?_))) (by omega) (by omega)) ?_
  rintro e0 w11 ⟨rfl, hb⟩
  have z11 : w10.heap.size + 0 ≤ w11.heap.size := (by have := hb.size; (try simp at this); omega)
  have K11_p0 : Hid (w11.heap[w.heap.size]? = some (.cells #[.int .i64 a0, .int .u32 a1] 24 (0, 0))) := Lib.hid ((hb.block _ (by first | omega | (simp <;> omega))).trans (by repeat (first | exact K10_p0.out | exact blknew _ _ | exact blknew' _ _ _ (by simp) | with_reducible refine blkal ?_ _ | with_reducible refine blkdrew ?_)))
  have K11_s5 : Hid (w11.heap[w2.heap.size]? = some (.cells #[.int .i64 r00, .int .u32 r01, .int .i64 r02, .slice A2_03 R03.length cap2_03] 28 (0, 0))) := Lib.hid ((hb.block _ (by first | omega | (simp <;> omega))).trans (by repeat (first | exact K10_s5.out | exact blknew _ _ | exact blknew' _ _ _ (by simp) | with_reducible refine blkal ?_ _ | with_reducible refine blkdrew ?_)))
  have K11_s7 : Hid (w11.heap[w4.heap.size]? = some (.cells #[.int .i64 r00, .int .u32 r01, .int .i64 r02, .slice A4_03 R03.length cap4_03] 28 (0, 0))) := Lib.hid ((hb.block _ (by first | omega | (simp <;> omega))).trans (by repeat (first | exact K10_s7.out | exact blknew _ _ | exact blknew' _ _ _ (by simp) | with_reducible refine blkal ?_ _ | with_reducible refine blkdrew ?_)))
  have K11_s11 : Hid (w11.heap[w9.heap.size]? = some (.cells #[.int .i64 r00, .int .u32 r01, .int .i64 r02, .slice A9_03 R03.length cap9_03] 28 (0, 0))) := Lib.hid ((hb.block _ (by first | omega | (simp <;> omega))).trans (by repeat (first | exact K10_s11.out | exact blknew _ _ | exact blknew' _ _ _ (by simp) | with_reducible refine blkal ?_ _ | with_reducible refine blkdrew ?_)))
  have O11_2_03 := Lib.hid (O10_2_03.out.below (Nat.le_refl _) (bthen (by repeat (first | with_reducible exact Below.refl _ _ | with_reducible refine bal ?_ _ | with_reducible refine bdrew1 ?_)) hb))
  have O11_4_03 := Lib.hid (O10_4_03.out.below (Nat.le_refl _) (bthen (by repeat (first | with_reducible exact Below.refl _ _ | with_reducible refine bal ?_ _ | with_reducible refine bdrew1 ?_)) hb))
  have O11_9_03 := Lib.hid (O10_9_03.out.below (Nat.le_refl _) (bthen (by repeat (first | with_reducible exact Below.refl _ _ | with_reducible refine bal ?_ _ | with_reducible refine bdrew1 ?_)) hb))
  have B11 : Hid (Below w.heap.size w w11) := Lib.hid (bthen (by repeat (first | with_reducible exact B10.out | with_reducible refine bal ?_ _ | with_reducible refine bdrew1 ?_)) hb)
  clear O10_2_03 O10_4_03 O10_9_03 K10_p0 K10_s5 K10_s7 K10_s11 B10 hb c10_p00 c10_p01 y10_p0 c10_s50 c10_s51 c10_s52 c10_s53 y10_s5 c10_s70 c10_s71 c10_s72 c10_s73 y10_s7 c10_s110 c10_s111 c10_s112 c10_s113 y10_s11
  obtain ⟨c11_p00, c11_p01⟩ := blkc2 K11_p0.out
  have y11_p0 : w.heap.size < w11.heap.size := blklt K11_p0.out
  obtain ⟨c11_s50, c11_s51, c11_s52, c11_s53⟩ := blkc4 K11_s5.out
  have y11_s5 : w2.heap.size < w11.heap.size := blklt K11_s5.out
  obtain ⟨c11_s70, c11_s71, c11_s72, c11_s73⟩ := blkc4 K11_s7.out
  have y11_s7 : w4.heap.size < w11.heap.size := blklt K11_s7.out
  obtain ⟨c11_s110, c11_s111, c11_s112, c11_s113⟩ := blkc4 K11_s11.out
  have y11_s11 : w9.heap.size < w11.heap.size := blklt K11_s11.out
  go_wp2_with fail
  exact bodyPost_ret (v := .bool true) (by simp [results, Try.results3, go_sem]) rfl ⟨rfl, (by first | exact B11.out | exact bal B11.out _ | exact bal (bal B11.out _) _)⟩
end Go.Proofs.Ytfdobpeekipafaa

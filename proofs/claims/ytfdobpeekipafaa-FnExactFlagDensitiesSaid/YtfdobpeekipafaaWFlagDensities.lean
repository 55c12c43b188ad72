/- The walk of FnExactFlagDensities, with what both sides return as hypotheses. -/
import Derived.Test.YtfdobpeekipafaaSl
import Derived.Test.YtfdobpeekipafaaMSum
import Derived.Test.YtfdobpeekipafaaTSum
namespace Go.Proofs.Ytfdobpeekipafaa
open Go.ChangeShapes Go.WideShapes Go.ChangeAt Go.RowKit
set_option linter.unusedVariables false
set_option linter.unusedSimpArgs false
attribute [local irreducible] Calls
set_option maxHeartbeats 4000000 in
set_option maxRecDepth 100000 in
theorem walkFlagDensities (a0 : Int) (b0 : Int) (b1 : Int) (b2 : Int) (R00 : List (Int × Int)) (r10 : Int) (mR00 : R00.length ≤ 100000) (HI0 : ∀ (W : World), Calls Try.prog 17 #[.int .i64 a0, .agg #[.int .i64 b0, .int .i64 b1, .int .u32 b2]] W fun e W' => ∃ A_00 cap_00 F_00, e = .returned (.tuple #[.slice A_00 R00.length cap_00, .int .i64 r10]) ∧ Own shFr W.heap.size W' R00 (.slice A_00 R00.length cap_00) F_00 ∧ Below W.heap.size W W') (HS0 : ∀ (W : World), Calls Try.prog 15 #[.int .i64 a0, .agg #[.int .i64 b0, .int .i64 b1, .int .u32 b2]] W fun e W' => ∃ A_00 cap_00 F_00, e = .returned (.tuple #[.slice A_00 R00.length cap_00, .int .i64 r10]) ∧ Own shFr W.heap.size W' R00 (.slice A_00 R00.length cap_00) F_00 ∧ Below W.heap.size W W') (w : World) :
    Calls Try.prog 4 #[.int .i64 a0, .agg #[.int .i64 b0, .int .i64 b1, .int .u32 b2]] w fun e0 w' => e0 = .returned (.bool true) ∧ Below w.heap.size w w' := by
  have HI := Lib.hid HI0
  have HS := Lib.hid HS0
  clear HI0 HS0
  have qr10 : (r10 != r10) = false := by simp
  go_enter Try.func4, Try.ntmps4
  go_wp2_with fail
  refine Calls.mono (toFlag_any _ _ _ _) ?_
  rintro e0 w1 ⟨rfl, hb⟩
  have z1 : w.heap.size + 1 ≤ w1.heap.size := (by have := hb.size; (try simp at this); omega)
  have K1_p1 : Hid (w1.heap[w.heap.size]? = some (.cells #[.int .i64 b0, .int .i64 b1, .int .u32 b2] 36 (0, 0))) := Lib.hid ((hb.block _ (by first | omega | (simp <;> omega))).trans (by repeat (first | exact blknew _ _ | exact blknew' _ _ _ (by simp) | with_reducible refine blkal ?_ _ | with_reducible refine blkdrew ?_)))
  have B1 : Hid (Below w.heap.size w w1) := Lib.hid (bthen (by (try with_reducible refine bsz ?_); repeat (first | with_reducible exact Below.refl _ _ | ((with_reducible refine bpre ?_); (try simp only [Array.append_assoc]); repeat (first | with_reducible exact Pre.refl _ | with_reducible exact Pre.base _ _ | with_reducible refine Pre.cons _ ?_)) | with_reducible assumption | ((with_reducible refine bsetr ?_); rfl) | with_reducible refine Below.setCell ?_ (by simp <;> omega) _ | with_reducible refine bpl ?_ _ _ | with_reducible refine bal ?_ _ | with_reducible refine bdrew1 ?_ | with_reducible refine bdrew ?_ _)) hb)
  clear hb
  obtain ⟨c1_p10, c1_p11, c1_p12⟩ := blkc3 K1_p1.out
  have y1_p1 : w.heap.size < w1.heap.size := blklt K1_p1.out
  go_wp2_with fail
  refine Calls.mono (HS.out _  ) ?_
  rintro e0 w2 ⟨A2_00, cap2_00, F2_00, rfl, hO_00, hb⟩
  have z2 : w1.heap.size + 0 ≤ w2.heap.size := (by have := hb.size; (try simp at this); omega)
  have K2_p1 : Hid (w2.heap[w.heap.size]? = some (.cells #[.int .i64 b0, .int .i64 b1, .int .u32 b2] 36 (0, 0))) := Lib.hid ((hb.block _ (by first | omega | (simp <;> omega))).trans (by repeat (first | exact K1_p1.out | exact blknew _ _ | exact blknew' _ _ _ (by simp) | with_reducible refine blkal ?_ _ | with_reducible refine blkdrew ?_)))
  have B2 : Hid (Below w.heap.size w w2) := Lib.hid (bthen (by repeat (first | with_reducible exact B1.out | with_reducible refine bal ?_ _ | with_reducible refine bdrew1 ?_)) hb)
  have L2_2_00 : Hid (∀ b ∈ F2_00, w1.heap.size + 0 ≤ b ∧ b < w2.heap.size) := Lib.hid (fun b hm => ⟨by have := hO_00.ge b hm; (try simp at this); omega, hO_00.lt b hm⟩)
  have O2_2_00 := Lib.hid hO_00
  clear K1_p1 hO_00 B1 hb c1_p10 c1_p11 c1_p12 y1_p1
  obtain ⟨c2_p10, c2_p11, c2_p12⟩ := blkc3 K2_p1.out
  have y2_p1 : w.heap.size < w2.heap.size := blklt K2_p1.out
  go_wp2_with fail
  refine Calls.mono (toFlag_any _ _ _ _) ?_
  rintro e0 w3 ⟨rfl, hb⟩
  have z3 : w2.heap.size + 0 ≤ w3.heap.size := (by have := hb.size; (try simp at this); omega)
  have K3_p1 : Hid (w3.heap[w.heap.size]? = some (.cells #[.int .i64 b0, .int .i64 b1, .int .u32 b2] 36 (0, 0))) := Lib.hid ((hb.block _ (by first | omega | (simp <;> omega))).trans (by repeat (first | exact K2_p1.out | exact blknew _ _ | exact blknew' _ _ _ (by simp) | with_reducible refine blkal ?_ _ | with_reducible refine blkdrew ?_)))
  have O3_2_00 := Lib.hid (O2_2_00.out.below (Nat.le_refl _) (bthen (by repeat (first | with_reducible exact Below.refl _ _ | with_reducible refine bal ?_ _ | with_reducible refine bdrew1 ?_)) hb))
  have B3 : Hid (Below w.heap.size w w3) := Lib.hid (bthen (by repeat (first | with_reducible exact B2.out | with_reducible refine bal ?_ _ | with_reducible refine bdrew1 ?_)) hb)
  clear O2_2_00 K2_p1 B2 hb c2_p10 c2_p11 c2_p12 y2_p1
  obtain ⟨c3_p10, c3_p11, c3_p12⟩ := blkc3 K3_p1.out
  have y3_p1 : w.heap.size < w3.heap.size := blklt K3_p1.out
  go_wp2_with fail
  refine Calls.mono (HI.out _  ) ?_
  rintro e0 w4 ⟨A4_00, cap4_00, F4_00, rfl, hO_00, hb⟩
  have z4 : w3.heap.size + 0 ≤ w4.heap.size := (by have := hb.size; (try simp at this); omega)
  have K4_p1 : Hid (w4.heap[w.heap.size]? = some (.cells #[.int .i64 b0, .int .i64 b1, .int .u32 b2] 36 (0, 0))) := Lib.hid ((hb.block _ (by first | omega | (simp <;> omega))).trans (by repeat (first | exact K3_p1.out | exact blknew _ _ | exact blknew' _ _ _ (by simp) | with_reducible refine blkal ?_ _ | with_reducible refine blkdrew ?_)))
  have O4_2_00 := Lib.hid (O3_2_00.out.below (Nat.le_refl _) (bthen (by repeat (first | with_reducible exact Below.refl _ _ | with_reducible refine bal ?_ _ | with_reducible refine bdrew1 ?_)) hb))
  have B4 : Hid (Below w.heap.size w w4) := Lib.hid (bthen (by repeat (first | with_reducible exact B3.out | with_reducible refine bal ?_ _ | with_reducible refine bdrew1 ?_)) hb)
  have L4_4_00 : Hid (∀ b ∈ F4_00, w3.heap.size + 0 ≤ b ∧ b < w4.heap.size) := Lib.hid (fun b hm => ⟨by have := hO_00.ge b hm; (try simp at this); omega, hO_00.lt b hm⟩)
  have O4_4_00 := Lib.hid hO_00
  clear O3_2_00 K3_p1 hO_00 B3 hb c3_p10 c3_p11 c3_p12 y3_p1
  obtain ⟨c4_p10, c4_p11, c4_p12⟩ := blkc3 K4_p1.out
  have y4_p1 : w.heap.size < w4.heap.size := blklt K4_p1.out
  go_wp2_with fail
  refine Calls.mono (eqFractionS_same _ R00 _ _ (O4_4_00.out.lst.below (by repeat (first | with_reducible exact Below.refl _ _ | with_reducible refine bal ?_ _ | with_reducible refine bdrew1 ?_))) (O4_2_00.out.lst.below (by repeat (first | with_reducible exact Below.refl _ _ | with_reducible refine bal ?_ _ | with_reducible refine bdrew1 ?_))) (by omega)) ?_
  rintro e0 w5 ⟨rfl, hb⟩
  have z5 : w4.heap.size + 0 ≤ w5.heap.size := (by have := hb.size; (try simp at this); omega)
  have K5_p1 : Hid (w5.heap[w.heap.size]? = some (.cells #[.int .i64 b0, .int .i64 b1, .int .u32 b2] 36 (0, 0))) := Lib.hid ((hb.block _ (by first | omega | (simp <;> omega))).trans (by repeat (first | exact K4_p1.out | exact blknew _ _ | exact blknew' _ _ _ (by simp) | with_reducible refine blkal ?_ _ | with_reducible refine blkdrew ?_)))
  have O5_2_00 := Lib.hid (O4_2_00.out.below (Nat.le_refl _) (bthen (by repeat (first | with_reducible exact Below.refl _ _ | with_reducible refine bal ?_ _ | with_reducible refine bdrew1 ?_)) hb))
  have O5_4_00 := Lib.hid (O4_4_00.out.below (Nat.le_refl _) (bthen (by repeat (first | with_reducible exact Below.refl _ _ | with_reducible refine bal ?_ _ | with_reducible refine bdrew1 ?_)) hb))
  have B5 : Hid (Below w.heap.size w w5) := Lib.hid (bthen (by repeat (first | with_reducible exact B4.out | with_reducible refine bal ?_ _ | with_reducible refine bdrew1 ?_)) hb)
  clear O4_2_00 O4_4_00 K4_p1 B4 hb c4_p10 c4_p11 c4_p12 y4_p1
  obtain ⟨c5_p10, c5_p11, c5_p12⟩ := blkc3 K5_p1.out
  have y5_p1 : w.heap.size < w5.heap.size := blklt K5_p1.out
  go_wp2_with fail
  refine Calls.mono (markFractionS_any _ _ R00 _ _ _ (O5_4_00.out.below (Nat.le_refl _) (by repeat (first | with_reducible exact Below.refl _ _ | with_reducible refine bal ?_ _ | with_reducible refine bdrew1 ?_))) (by omega) (by omega)) ?_
  rintro e0 w6 ⟨rfl, hO, hC⟩
  have z6 : w5.heap.size + 0 ≤ w6.heap.size := (by have := hC.2.2.2.1; (try simp at this); omega)
  have N6 := L4_4_00.out
  have K6_p1 : Hid (w6.heap[w.heap.size]? = some (.cells #[.int .i64 b0, .int .i64 b1, .int .u32 b2] 36 (0, 0))) := Lib.hid ((hC.2.2.2.2 _ (by first | omega | (simp <;> omega)) (fun hm => by first | (have := N6 _ hm; omega))).trans (by repeat (first | exact K5_p1.out | exact blknew _ _ | exact blknew' _ _ _ (by simp) | with_reducible refine blkal ?_ _ | with_reducible refine blkdrew ?_)))
  have O6_2_00 := Lib.hid (Own.bchgR O5_2_00.out (by repeat (first | with_reducible exact Below.refl _ _ | with_reducible refine bal ?_ _ | with_reducible refine bdrew1 ?_)) hC (fun b g1 g2 => by have := L2_2_00.out b g1; have := N6 b g2; omega))
  have O6_4_00 := Lib.hid hO
  have B6 : Hid (Below w.heap.size w w6) := Lib.hid (Below.trans (by repeat (first | with_reducible exact B5.out | with_reducible refine bal ?_ _ | with_reducible refine bdrew1 ?_)) (hC.below (B := w.heap.size) (fun b g2 => by have := N6 b g2; omega) (by first | omega | (simp; omega))))
  clear O5_2_00 O5_4_00 K5_p1 B5 hC N6 c5_p10 c5_p11 c5_p12 y5_p1
  obtain ⟨c6_p10, c6_p11, c6_p12⟩ := blkc3 K6_p1.out
  have y6_p1 : w.heap.size < w6.heap.size := blklt K6_p1.out
  have hk6 : (0 : Int) ≤ 1 + 2 * (R00.length : Int) := (by omega)
  have hq6 : ((1 + 2 * (R00.length : Int)) != (1 + 2 * (R00.length : Int))) = false := (by simp)
  go_wp2_with fail
  refine Calls.mono (heldFractionS_any _ R00.length _ _ (O6_4_00.out.lst.below (by repeat (first | with_reducible exact Below.refl _ _ | with_reducible refine bal ?_ _ | with_reducible refine bdrew1 ?_))) (by omega) (by omega)) ?_
  rintro e0 w7 ⟨rfl, hb⟩
  have z7 : w6.heap.size + 0 ≤ w7.heap.size := (by have := hb.size; (try simp at this); omega)
  have K7_p1 : Hid (w7.heap[w.heap.size]? = some (.cells #[.int .i64 b0, .int .i64 b1, .int .u32 b2] 36 (0, 0))) := Lib.hid ((hb.block _ (by first | omega | (simp <;> omega))).trans (by repeat (first | exact K6_p1.out | exact blknew _ _ | exact blknew' _ _ _ (by simp) | with_reducible refine blkal ?_ _ | with_reducible refine blkdrew ?_)))
  have O7_2_00 := Lib.hid (O6_2_00.out.below (Nat.le_refl _) (bthen (by repeat (first | with_reducible exact Below.refl _ _ | with_reducible refine bal ?_ _ | with_reducible refine bdrew1 ?_)) hb))
  have O7_4_00 := Lib.hid (O6_4_00.out.below (Nat.le_refl _) (bthen (by repeat (first | with_reducible exact Below.refl _ _ | with_reducible refine bal ?_ _ | with_reducible refine bdrew1 ?_)) hb))
  have B7 : Hid (Below w.heap.size w w7) := Lib.hid (bthen (by repeat (first | with_reducible exact B6.out | with_reducible refine bal ?_ _ | with_reducible refine bdrew1 ?_)) hb)
  clear O6_2_00 O6_4_00 K6_p1 B6 hb c6_p10 c6_p11 c6_p12 y6_p1
  obtain ⟨c7_p10, c7_p11, c7_p12⟩ := blkc3 K7_p1.out
  have y7_p1 : w.heap.size < w7.heap.size := blklt K7_p1.out
  go_wp2_with fail
  refine Calls.mono (toFlag_any _ _ _ _) ?_
  rintro e0 w8 ⟨rfl, hb⟩
  have z8 : w7.heap.size + 0 ≤ w8.heap.size := (by have := hb.size; (try simp at this); omega)
  have K8_p1 : Hid (w8.heap[w.heap.size]? = some (.cells #[.int .i64 b0, .int .i64 b1, .int .u32 b2] 36 (0, 0))) := Lib.hid ((hb.block _ (by first | omega | (simp <;> omega))).trans (by repeat (first | exact K7_p1.out | exact blknew _ _ | exact blknew' _ _ _ (by simp) | with_reducible refine blkal ?_ _ | with_reducible refine blkdrew ?_)))
  have O8_2_00 := Lib.hid (O7_2_00.out.below (Nat.le_refl _) (bthen (by repeat (first | with_reducible exact Below.refl _ _ | with_reducible refine bal ?_ _ | with_reducible refine bdrew1 ?_)) hb))
  have O8_4_00 := Lib.hid (O7_4_00.out.below (Nat.le_refl _) (bthen (by repeat (first | with_reducible exact Below.refl _ _ | with_reducible refine bal ?_ _ | with_reducible refine bdrew1 ?_)) hb))
  have B8 : Hid (Below w.heap.size w w8) := Lib.hid (bthen (by repeat (first | with_reducible exact B7.out | with_reducible refine bal ?_ _ | with_reducible refine bdrew1 ?_)) hb)
  clear O7_2_00 O7_4_00 K7_p1 B7 hb c7_p10 c7_p11 c7_p12 y7_p1
  obtain ⟨c8_p10, c8_p11, c8_p12⟩ := blkc3 K8_p1.out
  have y8_p1 : w.heap.size < w8.heap.size := blklt K8_p1.out
  go_wp2_with fail
  refine Calls.mono (HI.out _  ) ?_
  rintro e0 w9 ⟨A9_00, cap9_00, F9_00, rfl, hO_00, hb⟩
  have z9 : w8.heap.size + 0 ≤ w9.heap.size := (by have := hb.size; (try simp at this); omega)
  have K9_p1 : Hid (w9.heap[w.heap.size]? = some (.cells #[.int .i64 b0, .int .i64 b1, .int .u32 b2] 36 (0, 0))) := Lib.hid ((hb.block _ (by first | omega | (simp <;> omega))).trans (by repeat (first | exact K8_p1.out | exact blknew _ _ | exact blknew' _ _ _ (by simp) | with_reducible refine blkal ?_ _ | with_reducible refine blkdrew ?_)))
  have O9_2_00 := Lib.hid (O8_2_00.out.below (Nat.le_refl _) (bthen (by repeat (first | with_reducible exact Below.refl _ _ | with_reducible refine bal ?_ _ | with_reducible refine bdrew1 ?_)) hb))
  have O9_4_00 := Lib.hid (O8_4_00.out.below (Nat.le_refl _) (bthen (by repeat (first | with_reducible exact Below.refl _ _ | with_reducible refine bal ?_ _ | with_reducible refine bdrew1 ?_)) hb))
  have B9 : Hid (Below w.heap.size w w9) := Lib.hid (bthen (by repeat (first | with_reducible exact B8.out | with_reducible refine bal ?_ _ | with_reducible refine bdrew1 ?_)) hb)
  have L9_9_00 : Hid (∀ b ∈ F9_00, w8.heap.size + 0 ≤ b ∧ b < w9.heap.size) := Lib.hid (fun b hm => ⟨by have := hO_00.ge b hm; (try simp at this); omega, hO_00.lt b hm⟩)
  have O9_9_00 := Lib.hid hO_00
  clear O8_2_00 O8_4_00 K8_p1 hO_00 B8 hb c8_p10 c8_p11 c8_p12 y8_p1
  obtain ⟨c9_p10, c9_p11, c9_p12⟩ := blkc3 K9_p1.out
  have y9_p1 : w.heap.size < w9.heap.size := blklt K9_p1.out
  go_wp2_with fail
  refine Calls.mono (eqFractionS_same _ R00 _ _ (O9_9_00.out.lst.below (by repeat (first | with_reducible exact Below.refl _ _ | with_reducible refine bal ?_ _ | with_reducible refine bdrew1 ?_))) (O9_2_00.out.lst.below (by repeat (first | with_reducible exact Below.refl _ _ | with_reducible refine bal ?_ _ | with_reducible refine bdrew1 ?_))) (by omega)) ?_
  rintro e0 w10 ⟨rfl, hb⟩
  have z10 : w9.heap.size + 0 ≤ w10.heap.size := (by have := hb.size; (try simp at this); omega)
  have K10_p1 : Hid (w10.heap[w.heap.size]? = some (.cells #[.int .i64 b0, .int .i64 b1, .int .u32 b2] 36 (0, 0))) := Lib.hid ((hb.block _ (by first | omega | (simp <;> omega))).trans (by repeat (first | exact K9_p1.out | exact blknew _ _ | exact blknew' _ _ _ (by simp) | with_reducible refine blkal ?_ _ | with_reducible refine blkdrew ?_)))
  have O10_2_00 := Lib.hid (O9_2_00.out.below (Nat.le_refl _) (bthen (by repeat (first | with_reducible exact Below.refl _ _ | with_reducible refine bal ?_ _ | with_reducible refine bdrew1 ?_)) hb))
  have O10_4_00 := Lib.hid (O9_4_00.out.below (Nat.le_refl _) (bthen (by repeat (first | with_reducible exact Below.refl _ _ | with_reducible refine bal ?_ _ | with_reducible refine bdrew1 ?_)) hb))
  have O10_9_00 := Lib.hid (O9_9_00.out.below (Nat.le_refl _) (bthen (by repeat (first | with_reducible exact Below.refl _ _ | with_reducible refine bal ?_ _ | with_reducible refine bdrew1 ?_)) hb))
  have B10 : Hid (Below w.heap.size w w10) := Lib.hid (bthen (by repeat (first | with_reducible exact B9.out | with_reducible refine bal ?_ _ | with_reducible refine bdrew1 ?_)) hb)
  clear O9_2_00 O9_4_00 O9_9_00 K9_p1 B9 hb c9_p10 c9_p11 c9_p12 y9_p1
  obtain ⟨c10_p10, c10_p11, c10_p12⟩ := blkc3 K10_p1.out
  have y10_p1 : w.heap.size < w10.heap.size := blklt K10_p1.out
  go_wp2_with fail
  refine Calls.mono (heldFractionS_any _ R00.length _ _ (O10_4_00.out.lst.below (by repeat (first | with_reducible exact Below.refl _ _ | with_reducible refine bal ?_ _ | with_reducible refine bdrew1 ?_))) (by omega) (by omega)) ?_
  rintro e0 w11 ⟨rfl, hb⟩
  have z11 : w10.heap.size + 0 ≤ w11.heap.size := (by have := hb.size; (try simp at this); omega)
  have K11_p1 : Hid (w11.heap[w.heap.size]? = some (.cells #[.int .i64 b0, .int .i64 b1, .int .u32 b2] 36 (0, 0))) := Lib.hid ((hb.block _ (by first | omega | (simp <;> omega))).trans (by repeat (first | exact K10_p1.out | exact blknew _ _ | exact blknew' _ _ _ (by simp) | with_reducible refine blkal ?_ _ | with_reducible refine blkdrew ?_)))
  have O11_2_00 := Lib.hid (O10_2_00.out.below (Nat.le_refl _) (bthen (by repeat (first | with_reducible exact Below.refl _ _ | with_reducible refine bal ?_ _ | with_reducible refine bdrew1 ?_)) hb))
  have O11_4_00 := Lib.hid (O10_4_00.out.below (Nat.le_refl _) (bthen (by repeat (first | with_reducible exact Below.refl _ _ | with_reducible refine bal ?_ _ | with_reducible refine bdrew1 ?_)) hb))
  have O11_9_00 := Lib.hid (O10_9_00.out.below (Nat.le_refl _) (bthen (by repeat (first | with_reducible exact Below.refl _ _ | with_reducible refine bal ?_ _ | with_reducible refine bdrew1 ?_)) hb))
  have B11 : Hid (Below w.heap.size w w11) := Lib.hid (bthen (by repeat (first | with_reducible exact B10.out | with_reducible refine bal ?_ _ | with_reducible refine bdrew1 ?_)) hb)
  clear O10_2_00 O10_4_00 O10_9_00 K10_p1 B10 hb c10_p10 c10_p11 c10_p12 y10_p1
  obtain ⟨c11_p10, c11_p11, c11_p12⟩ := blkc3 K11_p1.out
  have y11_p1 : w.heap.size < w11.heap.size := blklt K11_p1.out
  go_wp2_with fail
  exact bodyPost_ret (v := .bool true) (by simp [results, Try.results4, go_sem]) rfl ⟨rfl, (by first | exact B11.out | exact bal B11.out _ | exact bal (bal B11.out _) _)⟩
end Go.Proofs.Ytfdobpeekipafaa

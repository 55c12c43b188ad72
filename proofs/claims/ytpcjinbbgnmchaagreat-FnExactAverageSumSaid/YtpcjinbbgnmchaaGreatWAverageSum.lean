/- The walk of FnExactAverageSum, with what both sides return as hypotheses. -/
import Derived.Test.YtpcjinbbgnmchaaGreatSl
import Derived.Test.YtpcjinbbgnmchaaGreatMSum
import Derived.Test.YtpcjinbbgnmchaaGreatTSum
namespace Go.Proofs.YtpcjinbbgnmchaaGreat
open Go.ChangeShapes Go.WideShapes Go.ChangeAt Go.RowKit
set_option linter.unusedVariables false
set_option linter.unusedSimpArgs false
attribute [local irreducible] Calls
set_option maxHeartbeats 4000000 in
set_option maxRecDepth 100000 in
theorem walkAverageSum (a0 : Int) (a1 : Int) (a2 : Int) (ax3 : List ((Int × (Int × Int)) × (Int × Int))) (av3 : Value) (r00 : Int) (r01 : Int) (r02 : Int) (R03 : List ((Int × (Int × Int)) × (Int × Int))) (r10 : Int) (mR03 : R03.length ≤ 100000) (HI0 : ∀ (W : World) (u0 : Value), Lst shTerm W ax3 u0 → ax3.length ≤ 1048576 → Calls Tryz.prog 28 #[.agg #[.int .i64 a0, .int .u32 a1, .int .i64 a2, u0]] W fun e W' => ∃ A_03 cap_03 F_03, e = .returned (.tuple #[.agg #[.int .i64 r00, .int .u32 r01, .int .i64 r02, .slice A_03 R03.length cap_03], .int .i64 r10]) ∧ Own shTerm W.heap.size W' R03 (.slice A_03 R03.length cap_03) F_03 ∧ Below W.heap.size W W') (HS0 : ∀ (W : World) (u0 : Value), Lst shTerm W ax3 u0 → ax3.length ≤ 1048576 → Calls Tryz.prog 27 #[.agg #[.int .i64 a0, .int .u32 a1, .int .i64 a2, u0]] W fun e W' => ∃ A_03 cap_03 F_03, e = .returned (.tuple #[.agg #[.int .i64 r00, .int .u32 r01, .int .i64 r02, .slice A_03 R03.length cap_03], .int .i64 r10]) ∧ Own shTerm W.heap.size W' R03 (.slice A_03 R03.length cap_03) F_03 ∧ Below W.heap.size W W') (w : World) (ah3 : Lst shTerm w ax3 av3) :
    Calls Tryz.prog 7 #[.agg #[.int .i64 a0, .int .u32 a1, .int .i64 a2, av3]] w fun e0 w' => e0 = .returned (.bool true) ∧ Below w.heap.size w w' := by
  obtain ⟨A_av3, cap_av3, rfl, fax3⟩ := formTerm ah3
  have HI := Lib.hid HI0
  have HS := Lib.hid HS0
  clear HI0 HS0
  have qr00 : (r00 != r00) = false := by simp
  have qr01 : (r01 != r01) = false := by simp
  have qr02 : (r02 != r02) = false := by simp
  have qr10 : (r10 != r10) = false := by simp
  have d0 := szI_bd (left := 1048576) (n := ax3.length) (by omega) (by omega) (by omega)
  by_cases g0 : szI (1048576) ax3.length < 0
  · go_enter Tryz.func7, Tryz.ntmps7
    go_wp2_with fail
    refine Calls.mono (szFlagSum_any _ _ _ _ ax3 _ _ (ah3.below belA) (by omega) (by omega)) ?_
    rintro e0 w1 ⟨rfl, hb⟩
    have z1 : w.heap.size + 1 ≤ w1.heap.size := (by have := hb.size; (try simp at this); omega)
    have K1_p0 : Hid (w1.heap[w.heap.size]? = some (.cells #[.int .i64 a0, .int .u32 a1, .int .i64 a2, .slice A_av3 ax3.length cap_av3] 27 (0, 0))) := Lib.hid ((hb.block _ (by first | omega | (simp <;> omega))).trans (by repeat (first | exact blknew _ _ | exact blknew' _ _ _ (by simp) | with_reducible refine blkal ?_ _ | with_reducible refine blkdrew ?_)))
    have B1 : Hid (Below w.heap.size w w1) := Lib.hid (bthen belA hb)
    clear hb
    obtain ⟨c1_p00, c1_p01, c1_p02, c1_p03⟩ := blkc4 K1_p0.out
    have y1_p0 : w.heap.size < w1.heap.size := blklt K1_p0.out
    go_wp2_with fail
    exact bodyPost_ret (v := .bool true) (by simp [results, Tryz.results7, go_sem]) rfl ⟨rfl, (by first | exact B1.out | exact bal B1.out _ | exact bal (bal B1.out _) _)⟩
  · have lax3 : ax3.length ≤ 1048576 := (by have := szI_pos g0; omega)
    go_enter Tryz.func7, Tryz.ntmps7
    go_wp2_with fail
    refine Calls.mono (szFlagSum_any _ _ _ _ ax3 _ _ (ah3.below belA) (by omega) (by omega)) ?_
    rintro e0 w1 ⟨rfl, hb⟩
    have z1 : w.heap.size + 1 ≤ w1.heap.size := (by have := hb.size; (try simp at this); omega)
    have K1_p0 : Hid (w1.heap[w.heap.size]? = some (.cells #[.int .i64 a0, .int .u32 a1, .int .i64 a2, .slice A_av3 ax3.length cap_av3] 27 (0, 0))) := Lib.hid ((hb.block _ (by first | omega | (simp <;> omega))).trans (by repeat (first | exact blknew _ _ | exact blknew' _ _ _ (by simp) | with_reducible refine blkal ?_ _ | with_reducible refine blkdrew ?_)))
    have B1 : Hid (Below w.heap.size w w1) := Lib.hid (bthen belA hb)
    clear hb
    obtain ⟨c1_p00, c1_p01, c1_p02, c1_p03⟩ := blkc4 K1_p0.out
    have y1_p0 : w.heap.size < w1.heap.size := blklt K1_p0.out
    go_wp2_with fail
    refine Calls.mono (toFlagSum_any _ _ _ _ ax3 _ (ah3.below (by repeat (first | with_reducible exact B1.out | with_reducible refine bal ?_ _ | with_reducible refine bdrew1 ?_))) (by omega)) ?_
    rintro e0 w2 ⟨A2, cap2, F2, rfl, hO, hb⟩
    have z2 : w1.heap.size + 0 ≤ w2.heap.size := (by have := hb.size; (try simp at this); omega)
    have K2_p0 : Hid (w2.heap[w.heap.size]? = some (.cells #[.int .i64 a0, .int .u32 a1, .int .i64 a2, .slice A_av3 ax3.length cap_av3] 27 (0, 0))) := Lib.hid ((hb.block _ (by first | omega | (simp <;> omega))).trans (by repeat (first | with_reducible exact K1_p0.out | with_reducible exact blkal K1_p0.out _ | with_reducible exact blkal (blkal K1_p0.out _) _ | exact K1_p0.out | exact blknew _ _ | exact blknew' _ _ _ (by simp) | with_reducible refine blkal ?_ _ | with_reducible refine blkdrew ?_)))
    have B2 : Hid (Below w.heap.size w w2) := Lib.hid (bthen (by repeat (first | with_reducible exact B1.out | with_reducible refine bal ?_ _ | with_reducible refine bdrew1 ?_)) hb)
    have L2_2 : Hid (∀ b ∈ F2, w1.heap.size + 0 ≤ b ∧ b < w2.heap.size) := Lib.hid (fun b hm => ⟨by have := hO.ge b hm; (try simp at this); omega, hO.lt b hm⟩)
    have O2_2 := Lib.hid hO
    clear K1_p0 hO B1 hb c1_p00 c1_p01 c1_p02 c1_p03 y1_p0
    obtain ⟨c2_p00, c2_p01, c2_p02, c2_p03⟩ := blkc4 K2_p0.out
    have y2_p0 : w.heap.size < w2.heap.size := blklt K2_p0.out
    go_wp2_with fail
    refine Calls.mono (HS.out _ _ (O2_2.out.lst.below (by repeat (first | with_reducible exact Below.refl _ _ | with_reducible refine bal ?_ _ | with_reducible refine bdrew1 ?_))) (by omega)) ?_
    rintro e0 w3 ⟨A3_03, cap3_03, F3_03, rfl, hO_03, hb⟩
    have z3 : w2.heap.size + 0 ≤ w3.heap.size := (by have := hb.size; (try simp at this); omega)
    have K3_p0 : Hid (w3.heap[w.heap.size]? = some (.cells #[.int .i64 a0, .int .u32 a1, .int .i64 a2, .slice A_av3 ax3.length cap_av3] 27 (0, 0))) := Lib.hid ((hb.block _ (by first | omega | (simp <;> omega))).trans (by repeat (first | with_reducible exact K2_p0.out | with_reducible exact blkal K2_p0.out _ | with_reducible exact blkal (blkal K2_p0.out _) _ | exact K2_p0.out | exact blknew _ _ | exact blknew' _ _ _ (by simp) | with_reducible refine blkal ?_ _ | with_reducible refine blkdrew ?_)))
    have O3_2 := Lib.hid (O2_2.out.below (Nat.le_refl _) (bthen (by repeat (first | with_reducible exact Below.refl _ _ | with_reducible refine bal ?_ _ | with_reducible refine bdrew1 ?_)) hb))
    have B3 : Hid (Below w.heap.size w w3) := Lib.hid (bthen (by repeat (first | with_reducible exact B2.out | with_reducible refine bal ?_ _ | with_reducible refine bdrew1 ?_)) hb)
    have L3_3_03 : Hid (∀ b ∈ F3_03, w2.heap.size + 0 ≤ b ∧ b < w3.heap.size) := Lib.hid (fun b hm => ⟨by have := hO_03.ge b hm; (try simp at this); omega, hO_03.lt b hm⟩)
    have O3_3_03 := Lib.hid hO_03
    clear O2_2 K2_p0 hO_03 B2 hb c2_p00 c2_p01 c2_p02 c2_p03 y2_p0
    obtain ⟨c3_p00, c3_p01, c3_p02, c3_p03⟩ := blkc4 K3_p0.out
    have y3_p0 : w.heap.size < w3.heap.size := blklt K3_p0.out
    go_wp2_with fail
    refine Calls.mono (toFlagSum_any _ _ _ _ ax3 _ (ah3.below (by repeat (first | with_reducible exact B3.out | with_reducible refine bal ?_ _ | with_reducible refine bdrew1 ?_))) (by omega)) ?_
    rintro e0 w4 ⟨A4, cap4, F4, rfl, hO, hb⟩
    have z4 : w3.heap.size + 1 ≤ w4.heap.size := (by have := hb.size; (try simp at this); omega)
    have K4_p0 : Hid (w4.heap[w.heap.size]? = some (.cells #[.int .i64 a0, .int .u32 a1, .int .i64 a2, .slice A_av3 ax3.length cap_av3] 27 (0, 0))) := Lib.hid ((hb.block _ (by first | omega | (simp <;> omega))).trans (by repeat (first | with_reducible exact K3_p0.out | with_reducible exact blkal K3_p0.out _ | with_reducible exact blkal (blkal K3_p0.out _) _ | exact K3_p0.out | exact blknew _ _ | exact blknew' _ _ _ (by simp) | with_reducible refine blkal ?_ _ | with_reducible refine blkdrew ?_)))
    have K4_s4 : Hid (w4.heap[w3.heap.size]? = some (.cells #[.int .i64 r00, .int .u32 r01, .int .i64 r02, .slice A3_03 R03.length cap3_03] 34 (0, 0))) := Lib.hid ((hb.block _ (by first | omega | (simp <;> omega))).trans (by repeat (first | exact blknew _ _ | exact blknew' _ _ _ (by simp) | with_reducible refine blkal ?_ _ | with_reducible refine blkdrew ?_)))
    have O4_2 := Lib.hid (O3_2.out.below (Nat.le_refl _) (bthen (by repeat (first | with_reducible exact Below.refl _ _ | with_reducible refine bal ?_ _ | with_reducible refine bdrew1 ?_)) hb))
    have O4_3_03 := Lib.hid (O3_3_03.out.below (Nat.le_refl _) (bthen (by repeat (first | with_reducible exact Below.refl _ _ | with_reducible refine bal ?_ _ | with_reducible refine bdrew1 ?_)) hb))
    have B4 : Hid (Below w.heap.size w w4) := Lib.hid (bthen (by repeat (first | with_reducible exact B3.out | with_reducible refine bal ?_ _ | with_reducible refine bdrew1 ?_)) hb)
    have L4_4 : Hid (∀ b ∈ F4, w3.heap.size + 1 ≤ b ∧ b < w4.heap.size) := Lib.hid (fun b hm => ⟨by have := hO.ge b hm; (try simp at this); omega, hO.lt b hm⟩)
    have O4_4 := Lib.hid hO
    clear O3_2 O3_3_03 K3_p0 hO B3 hb c3_p00 c3_p01 c3_p02 c3_p03 y3_p0
    obtain ⟨c4_p00, c4_p01, c4_p02, c4_p03⟩ := blkc4 K4_p0.out
    have y4_p0 : w.heap.size < w4.heap.size := blklt K4_p0.out
    obtain ⟨c4_s40, c4_s41, c4_s42, c4_s43⟩ := blkc4 K4_s4.out
    have y4_s4 : w3.heap.size < w4.heap.size := blklt K4_s4.out
    go_wp2_with fail
    refine Calls.mono (HI.out _ _ (O4_4.out.lst.below (by repeat (first | with_reducible exact Below.refl _ _ | with_reducible refine bal ?_ _ | with_reducible refine bdrew1 ?_))) (by omega)) ?_
    rintro e0 w5 ⟨A5_03, cap5_03, F5_03, rfl, hO_03, hb⟩
    have z5 : w4.heap.size + 1 ≤ w5.heap.size := (by have := hb.size; (try simp at this); omega)
    have K5_p0 : Hid (w5.heap[w.heap.size]? = some (.cells #[.int .i64 a0, .int .u32 a1, .int .i64 a2, .slice A_av3 ax3.length cap_av3] 27 (0, 0))) := Lib.hid ((hb.block _ (by first | omega | (simp <;> omega))).trans (by repeat (first | with_reducible exact K4_p0.out | with_reducible exact blkal K4_p0.out _ | with_reducible exact blkal (blkal K4_p0.out _) _ | exact K4_p0.out | exact blknew _ _ | exact blknew' _ _ _ (by simp) | with_reducible refine blkal ?_ _ | with_reducible refine blkdrew ?_)))
    have K5_s4 : Hid (w5.heap[w3.heap.size]? = some (.cells #[.int .i64 r00, .int .u32 r01, .int .i64 r02, .slice A3_03 R03.length cap3_03] 34 (0, 0))) := Lib.hid ((hb.block _ (by first | omega | (simp <;> omega))).trans (by repeat (first | with_reducible exact K4_s4.out | with_reducible exact blkal K4_s4.out _ | with_reducible exact blkal (blkal K4_s4.out _) _ | exact K4_s4.out | exact blknew _ _ | exact blknew' _ _ _ (by simp) | with_reducible refine blkal ?_ _ | with_reducible refine blkdrew ?_)))
    have K5_s6 : Hid (w5.heap[w4.heap.size]? = some (.cells #[.int .i64 a0, .int .u32 a1, .int .i64 a2, .slice A4 ax3.length cap4] 34 (0, 0))) := Lib.hid ((hb.block _ (by first | omega | (simp <;> omega))).trans (by repeat (first | exact blknew _ _ | exact blknew' _ _ _ (by simp) | with_reducible refine blkal ?_ _ | with_reducible refine blkdrew ?_)))
    have O5_2 := Lib.hid (O4_2.out.below (Nat.le_refl _) (bthen (by repeat (first | with_reducible exact Below.refl _ _ | with_reducible refine bal ?_ _ | with_reducible refine bdrew1 ?_)) hb))
    have O5_3_03 := Lib.hid (O4_3_03.out.below (Nat.le_refl _) (bthen (by repeat (first | with_reducible exact Below.refl _ _ | with_reducible refine bal ?_ _ | with_reducible refine bdrew1 ?_)) hb))
    have O5_4 := Lib.hid (O4_4.out.below (Nat.le_refl _) (bthen (by repeat (first | with_reducible exact Below.refl _ _ | with_reducible refine bal ?_ _ | with_reducible refine bdrew1 ?_)) hb))
    have B5 : Hid (Below w.heap.size w w5) := Lib.hid (bthen (by repeat (first | with_reducible exact B4.out | with_reducible refine bal ?_ _ | with_reducible refine bdrew1 ?_)) hb)
    have L5_5_03 : Hid (∀ b ∈ F5_03, w4.heap.size + 1 ≤ b ∧ b < w5.heap.size) := Lib.hid (fun b hm => ⟨by have := hO_03.ge b hm; (try simp at this); omega, hO_03.lt b hm⟩)
    have O5_5_03 := Lib.hid hO_03
    clear O4_2 O4_3_03 O4_4 K4_p0 K4_s4 hO_03 B4 hb c4_p00 c4_p01 c4_p02 c4_p03 y4_p0 c4_s40 c4_s41 c4_s42 c4_s43 y4_s4
    obtain ⟨c5_p00, c5_p01, c5_p02, c5_p03⟩ := blkc4 K5_p0.out
    have y5_p0 : w.heap.size < w5.heap.size := blklt K5_p0.out
    obtain ⟨c5_s40, c5_s41, c5_s42, c5_s43⟩ := blkc4 K5_s4.out
    have y5_s4 : w3.heap.size < w5.heap.size := blklt K5_s4.out
    obtain ⟨c5_s60, c5_s61, c5_s62, c5_s63⟩ := blkc4 K5_s6.out
    have y5_s6 : w4.heap.size < w5.heap.size := blklt K5_s6.out
    go_wp2_with fail
    refine Calls.mono (eqFlagSum_same _ _ _ _ R03 _ _ (O5_5_03.out.lst.below (by repeat (first | with_reducible exact Below.refl _ _ | with_reducible refine bal ?_ _ | with_reducible refine bdrew1 ?_))) (O5_3_03.out.lst.below (by repeat (first | with_reducible exact Below.refl _ _ | with_reducible refine bal ?_ _ | with_reducible refine bdrew1 ?_))) (by omega)) ?_
    rintro e0 w6 ⟨rfl, hb⟩
    have z6 : w5.heap.size + 1 ≤ w6.heap.size := (by have := hb.size; (try simp at this); omega)
    have K6_p0 : Hid (w6.heap[w.heap.size]? = some (.cells #[.int .i64 a0, .int .u32 a1, .int .i64 a2, .slice A_av3 ax3.length cap_av3] 27 (0, 0))) := Lib.hid ((hb.block _ (by first | omega | (simp <;> omega))).trans (by repeat (first | with_reducible exact K5_p0.out | with_reducible exact blkal K5_p0.out _ | with_reducible exact blkal (blkal K5_p0.out _) _ | exact K5_p0.out | exact blknew _ _ | exact blknew' _ _ _ (by simp) | with_reducible refine blkal ?_ _ | with_reducible refine blkdrew ?_)))
    have K6_s4 : Hid (w6.heap[w3.heap.size]? = some (.cells #[.int .i64 r00, .int .u32 r01, .int .i64 r02, .slice A3_03 R03.length cap3_03] 34 (0, 0))) := Lib.hid ((hb.block _ (by first | omega | (simp <;> omega))).trans (by repeat (first | with_reducible exact K5_s4.out | with_reducible exact blkal K5_s4.out _ | with_reducible exact blkal (blkal K5_s4.out _) _ | exact K5_s4.out | exact blknew _ _ | exact blknew' _ _ _ (by simp) | with_reducible refine blkal ?_ _ | with_reducible refine blkdrew ?_)))
    have K6_s6 : Hid (w6.heap[w4.heap.size]? = some (.cells #[.int .i64 a0, .int .u32 a1, .int .i64 a2, .slice A4 ax3.length cap4] 34 (0, 0))) := Lib.hid ((hb.block _ (by first | omega | (simp <;> omega))).trans (by repeat (first | with_reducible exact K5_s6.out | with_reducible exact blkal K5_s6.out _ | with_reducible exact blkal (blkal K5_s6.out _) _ | exact K5_s6.out | exact blknew _ _ | exact blknew' _ _ _ (by simp) | with_reducible refine blkal ?_ _ | with_reducible refine blkdrew ?_)))
    have K6_s7 : Hid (w6.heap[w5.heap.size]? = some (.cells #[.int .i64 r00, .int .u32 r01, .int .i64 r02, .slice A5_03 R03.length cap5_03] 34 (0, 0))) := Lib.hid ((hb.block _ (by first | omega | (simp <;> omega))).trans (by repeat (first | exact blknew _ _ | exact blknew' _ _ _ (by simp) | with_reducible refine blkal ?_ _ | with_reducible refine blkdrew ?_)))
    have O6_2 := Lib.hid (O5_2.out.below (Nat.le_refl _) (bthen (by repeat (first | with_reducible exact Below.refl _ _ | with_reducible refine bal ?_ _ | with_reducible refine bdrew1 ?_)) hb))
    have O6_3_03 := Lib.hid (O5_3_03.out.below (Nat.le_refl _) (bthen (by repeat (first | with_reducible exact Below.refl _ _ | with_reducible refine bal ?_ _ | with_reducible refine bdrew1 ?_)) hb))
    have O6_4 := Lib.hid (O5_4.out.below (Nat.le_refl _) (bthen (by repeat (first | with_reducible exact Below.refl _ _ | with_reducible refine bal ?_ _ | with_reducible refine bdrew1 ?_)) hb))
    have O6_5_03 := Lib.hid (O5_5_03.out.below (Nat.le_refl _) (bthen (by repeat (first | with_reducible exact Below.refl _ _ | with_reducible refine bal ?_ _ | with_reducible refine bdrew1 ?_)) hb))
    have B6 : Hid (Below w.heap.size w w6) := Lib.hid (bthen (by repeat (first | with_reducible exact B5.out | with_reducible refine bal ?_ _ | with_reducible refine bdrew1 ?_)) hb)
    clear O5_2 O5_3_03 O5_4 O5_5_03 K5_p0 K5_s4 K5_s6 B5 hb c5_p00 c5_p01 c5_p02 c5_p03 y5_p0 c5_s40 c5_s41 c5_s42 c5_s43 y5_s4 c5_s60 c5_s61 c5_s62 c5_s63 y5_s6
    obtain ⟨c6_p00, c6_p01, c6_p02, c6_p03⟩ := blkc4 K6_p0.out
    have y6_p0 : w.heap.size < w6.heap.size := blklt K6_p0.out
    obtain ⟨c6_s40, c6_s41, c6_s42, c6_s43⟩ := blkc4 K6_s4.out
    have y6_s4 : w3.heap.size < w6.heap.size := blklt K6_s4.out
    obtain ⟨c6_s60, c6_s61, c6_s62, c6_s63⟩ := blkc4 K6_s6.out
    have y6_s6 : w4.heap.size < w6.heap.size := blklt K6_s6.out
    obtain ⟨c6_s70, c6_s71, c6_s72, c6_s73⟩ := blkc4 K6_s7.out
    have y6_s7 : w5.heap.size < w6.heap.size := blklt K6_s7.out
    go_wp2_with fail
    (refine wp_region_held_drew (S := (fun w' => w'.cell? ⟨w.heap.size, 0, none⟩ = some (.int .i64 a0) ∧ w'.cell? ⟨w.heap.size, 1, none⟩ = some (.int .u32 a1) ∧ w'.cell? ⟨w.heap.size, 2, none⟩ = some (.int .i64 a2) ∧ w'.cell? ⟨w.heap.size, 3, none⟩ = some (.slice A_av3 ax3.length cap_av3) ∧ w'.cell? ⟨w4.heap.size, 0, none⟩ = some (.int .i64 a0) ∧ w'.cell? ⟨w4.heap.size, 1, none⟩ = some (.int .u32 a1) ∧ w'.cell? ⟨w4.heap.size, 2, none⟩ = some (.int .i64 a2) ∧ w'.cell? ⟨w4.heap.size, 3, none⟩ = some (.slice A4 ax3.length cap4))) (by kernel_rfl) ?_ (fun hHeld => ?_); (focus (simp [*, go_sem])); refine rt 0 (some 41) (v := ?_) rfl rfl ?_ ?_; rotate_left; (focus (intro w' hSw; (try dsimp only at hSw); go_simp; (try with_reducible rfl))); (try simp only [Act.put, nA, nB, nC]); refine rt 1 (some 42) (v := ?_) rfl rfl ?_ ?_; rotate_left; (focus (intro w' hSw; (try dsimp only at hSw); go_simp; (try with_reducible rfl))); (try simp only [Act.put, nA, nB, nC]); refine wpAnyH_ready (rs := [2]) (by kernel_rfl) (by simp) ?_; refine AllReadyH.cons rfl (fun K hK => ?_) AllReadyH.nil; go_simp; (go_at_call 10; refine Calls.mono (toFlagSum_any _ _ _ _ ax3 _ (ah3.below (by repeat (first | with_reducible exact B6.out | with_reducible refine bal ?_ _ | with_reducible refine bdrew1 ?_))) (by omega)) ?_; rintro e0 w7 ⟨A7, cap7, F7, rfl, hO, hb⟩; have z7 : w6.heap.size + 0 ≤ w7.heap.size := (by have := hb.size; (try simp at this); omega); have K7_p0 : Hid (w7.heap[w.heap.size]? = some (.cells #[.int .i64 a0, .int .u32 a1, .int .i64 a2, .slice A_av3 ax3.length cap_av3] 27 (0, 0))) := Lib.hid ((hb.block _ (by first | omega | (simp <;> omega))).trans (by repeat (first | with_reducible exact K6_p0.out | with_reducible exact blkal K6_p0.out _ | with_reducible exact blkal (blkal K6_p0.out _) _ | exact K6_p0.out | exact blknew _ _ | exact blknew' _ _ _ (by simp) | with_reducible refine blkal ?_ _ | with_reducible refine blkdrew ?_))); have K7_s4 : Hid (w7.heap[w3.heap.size]? = some (.cells #[.int .i64 r00, .int .u32 r01, .int .i64 r02, .slice A3_03 R03.length cap3_03] 34 (0, 0))) := Lib.hid ((hb.block _ (by first | omega | (simp <;> omega))).trans (by repeat (first | with_reducible exact K6_s4.out | with_reducible exact blkal K6_s4.out _ | with_reducible exact blkal (blkal K6_s4.out _) _ | exact K6_s4.out | exact blknew _ _ | exact blknew' _ _ _ (by simp) | with_reducible refine blkal ?_ _ | with_reducible refine blkdrew ?_))); have K7_s6 : Hid (w7.heap[w4.heap.size]? = some (.cells #[.int .i64 a0, .int .u32 a1, .int .i64 a2, .slice A4 ax3.length cap4] 34 (0, 0))) := Lib.hid ((hb.block _ (by first | omega | (simp <;> omega))).trans (by repeat (first | with_reducible exact K6_s6.out | with_reducible exact blkal K6_s6.out _ | with_reducible exact blkal (blkal K6_s6.out _) _ | exact K6_s6.out | exact blknew _ _ | exact blknew' _ _ _ (by simp) | with_reducible refine blkal ?_ _ | with_reducible refine blkdrew ?_))); have K7_s7 : Hid (w7.heap[w5.heap.size]? = some (.cells #[.int .i64 r00, .int .u32 r01, .int .i64 r02, .slice A5_03 R03.length cap5_03] 34 (0, 0))) := Lib.hid ((hb.block _ (by first | omega | (simp <;> omega))).trans (by repeat (first | with_reducible exact K6_s7.out | with_reducible exact blkal K6_s7.out _ | with_reducible exact blkal (blkal K6_s7.out _) _ | exact K6_s7.out | exact blknew _ _ | exact blknew' _ _ _ (by simp) | with_reducible refine blkal ?_ _ | with_reducible refine blkdrew ?_))); have O7_2 := Lib.hid (O6_2.out.below (Nat.le_refl _) (bthen (by repeat (first | with_reducible exact Below.refl _ _ | with_reducible refine bal ?_ _ | with_reducible refine bdrew1 ?_)) hb)); have O7_3_03 := Lib.hid (O6_3_03.out.below (Nat.le_refl _) (bthen (by repeat (first | with_reducible exact Below.refl _ _ | with_reducible refine bal ?_ _ | with_reducible refine bdrew1 ?_)) hb)); have O7_4 := Lib.hid (O6_4.out.below (Nat.le_refl _) (bthen (by repeat (first | with_reducible exact Below.refl _ _ | with_reducible refine bal ?_ _ | with_reducible refine bdrew1 ?_)) hb)); have O7_5_03 := Lib.hid (O6_5_03.out.below (Nat.le_refl _) (bthen (by repeat (first | with_reducible exact Below.refl _ _ | with_reducible refine bal ?_ _ | with_reducible refine bdrew1 ?_)) hb)); have B7 : Hid (Below w.heap.size w w7) := Lib.hid (bthen (by repeat (first | with_reducible exact B6.out | with_reducible refine bal ?_ _ | with_reducible refine bdrew1 ?_)) hb); have L7_7 : Hid (∀ b ∈ F7, w6.heap.size + 0 ≤ b ∧ b < w7.heap.size) := Lib.hid (fun b hm => ⟨by have := hO.ge b hm; (try simp at this); omega, hO.lt b hm⟩); have O7_7 := Lib.hid hO; clear O6_2 O6_3_03 O6_4 O6_5_03 K6_p0 K6_s4 K6_s6 K6_s7 hO B6 hb c6_p00 c6_p01 c6_p02 c6_p03 y6_p0 c6_s40 c6_s41 c6_s42 c6_s43 y6_s4 c6_s60 c6_s61 c6_s62 c6_s63 y6_s6 c6_s70 c6_s71 c6_s72 c6_s73 y6_s7; obtain ⟨c7_p00, c7_p01, c7_p02, c7_p03⟩ := blkc4 K7_p0.out; have y7_p0 : w.heap.size < w7.heap.size := blklt K7_p0.out; obtain ⟨c7_s40, c7_s41, c7_s42, c7_s43⟩ := blkc4 K7_s4.out; have y7_s4 : w3.heap.size < w7.heap.size := blklt K7_s4.out; obtain ⟨c7_s60, c7_s61, c7_s62, c7_s63⟩ := blkc4 K7_s6.out; have y7_s6 : w4.heap.size < w7.heap.size := blklt K7_s6.out; obtain ⟨c7_s70, c7_s71, c7_s72, c7_s73⟩ := blkc4 K7_s7.out; have y7_s7 : w5.heap.size < w7.heap.size := blklt K7_s7.out); go_wp2_with fail; refine hK.out _ _ ?_ (fun hHeld => ?_); (focus (simp [*, go_sem])); clear hK K; (try simp only [Act.put, nA, nB, nC]); refine wpAnyH_ready (rs := [3]) (by kernel_rfl) (by simp) ?_; refine AllReadyH.cons rfl (fun K hK => ?_) AllReadyH.nil; go_simp; (go_at_call 12; refine Calls.mono (eqFlagSum_same _ _ _ _ ax3 _ _ (O7_4.out.lst.below (by repeat (first | with_reducible exact Below.refl _ _ | with_reducible refine bal ?_ _ | with_reducible refine bdrew1 ?_))) (O7_7.out.lst.below (by repeat (first | with_reducible exact Below.refl _ _ | with_reducible refine bal ?_ _ | with_reducible refine bdrew1 ?_))) (by omega)) ?_; rintro e0 w8 ⟨rfl, hb⟩; have z8 : w7.heap.size + 0 ≤ w8.heap.size := (by have := hb.size; (try simp at this); omega); have K8_p0 : Hid (w8.heap[w.heap.size]? = some (.cells #[.int .i64 a0, .int .u32 a1, .int .i64 a2, .slice A_av3 ax3.length cap_av3] 27 (0, 0))) := Lib.hid ((hb.block _ (by first | omega | (simp <;> omega))).trans (by repeat (first | with_reducible exact K7_p0.out | with_reducible exact blkal K7_p0.out _ | with_reducible exact blkal (blkal K7_p0.out _) _ | exact K7_p0.out | exact blknew _ _ | exact blknew' _ _ _ (by simp) | with_reducible refine blkal ?_ _ | with_reducible refine blkdrew ?_))); have K8_s4 : Hid (w8.heap[w3.heap.size]? = some (.cells #[.int .i64 r00, .int .u32 r01, .int .i64 r02, .slice A3_03 R03.length cap3_03] 34 (0, 0))) := Lib.hid ((hb.block _ (by first | omega | (simp <;> omega))).trans (by repeat (first | with_reducible exact K7_s4.out | with_reducible exact blkal K7_s4.out _ | with_reducible exact blkal (blkal K7_s4.out _) _ | exact K7_s4.out | exact blknew _ _ | exact blknew' _ _ _ (by simp) | with_reducible refine blkal ?_ _ | with_reducible refine blkdrew ?_))); have K8_s6 : Hid (w8.heap[w4.heap.size]? = some (.cells #[.int .i64 a0, .int .u32 a1, .int .i64 a2, .slice A4 ax3.length cap4] 34 (0, 0))) := Lib.hid ((hb.block _ (by first | omega | (simp <;> omega))).trans (by repeat (first | with_reducible exact K7_s6.out | with_reducible exact blkal K7_s6.out _ | with_reducible exact blkal (blkal K7_s6.out _) _ | exact K7_s6.out | exact blknew _ _ | exact blknew' _ _ _ (by simp) | with_reducible refine blkal ?_ _ | with_reducible refine blkdrew ?_))); have K8_s7 : Hid (w8.heap[w5.heap.size]? = some (.cells #[.int .i64 r00, .int .u32 r01, .int .i64 r02, .slice A5_03 R03.length cap5_03] 34 (0, 0))) := Lib.hid ((hb.block _ (by first | omega | (simp <;> omega))).trans (by repeat (first | with_reducible exact K7_s7.out | with_reducible exact blkal K7_s7.out _ | with_reducible exact blkal (blkal K7_s7.out _) _ | exact K7_s7.out | exact blknew _ _ | exact blknew' _ _ _ (by simp) | with_reducible refine blkal ?_ _ | with_reducible refine blkdrew ?_))); have O8_2 := Lib.hid (O7_2.out.below (Nat.le_refl _) (bthen (by repeat (first | with_reducible exact Below.refl _ _ | with_reducible refine bal ?_ _ | with_reducible refine bdrew1 ?_)) hb)); have O8_3_03 := Lib.hid (O7_3_03.out.below (Nat.le_refl _) (bthen (by repeat (first | with_reducible exact Below.refl _ _ | with_reducible refine bal ?_ _ | with_reducible refine bdrew1 ?_)) hb)); have O8_4 := Lib.hid (O7_4.out.below (Nat.le_refl _) (bthen (by repeat (first | with_reducible exact Below.refl _ _ | with_reducible refine bal ?_ _ | with_reducible refine bdrew1 ?_)) hb)); have O8_5_03 := Lib.hid (O7_5_03.out.below (Nat.le_refl _) (bthen (by repeat (first | with_reducible exact Below.refl _ _ | with_reducible refine bal ?_ _ | with_reducible refine bdrew1 ?_)) hb)); have O8_7 := Lib.hid (O7_7.out.below (Nat.le_refl _) (bthen (by repeat (first | with_reducible exact Below.refl _ _ | with_reducible refine bal ?_ _ | with_reducible refine bdrew1 ?_)) hb)); have B8 : Hid (Below w.heap.size w w8) := Lib.hid (bthen (by repeat (first | with_reducible exact B7.out | with_reducible refine bal ?_ _ | with_reducible refine bdrew1 ?_)) hb); clear O7_2 O7_3_03 O7_4 O7_5_03 O7_7 K7_p0 K7_s4 K7_s6 K7_s7 B7 hb c7_p00 c7_p01 c7_p02 c7_p03 y7_p0 c7_s40 c7_s41 c7_s42 c7_s43 y7_s4 c7_s60 c7_s61 c7_s62 c7_s63 y7_s6 c7_s70 c7_s71 c7_s72 c7_s73 y7_s7; obtain ⟨c8_p00, c8_p01, c8_p02, c8_p03⟩ := blkc4 K8_p0.out; have y8_p0 : w.heap.size < w8.heap.size := blklt K8_p0.out; obtain ⟨c8_s40, c8_s41, c8_s42, c8_s43⟩ := blkc4 K8_s4.out; have y8_s4 : w3.heap.size < w8.heap.size := blklt K8_s4.out; obtain ⟨c8_s60, c8_s61, c8_s62, c8_s63⟩ := blkc4 K8_s6.out; have y8_s6 : w4.heap.size < w8.heap.size := blklt K8_s6.out; obtain ⟨c8_s70, c8_s71, c8_s72, c8_s73⟩ := blkc4 K8_s7.out; have y8_s7 : w5.heap.size < w8.heap.size := blklt K8_s7.out); go_wp2_with fail; refine hK.out _ _ ?_ (fun hHeld => ?_); (focus (simp [*, go_sem])); clear hK K; (try simp only [Act.put, nA, nB, nC]); refine rt 4 (some 45) (v := ?_) rfl rfl ?_ ?_; rotate_left; (focus (intro w' hSw; (try dsimp only at hSw); go_simp; (try with_reducible rfl))); (try simp only [Act.put, nA, nB, nC]); refine wpAnyH_done (by kernel_rfl) ?_ _)
    clear hHeld
    go_wp2_with fail
    refine Calls.mono (markFlagSum_any _ _ _ _ _ ax3 _ _ _ (O8_4.out.below (Nat.le_refl _) (by repeat (first | with_reducible exact Below.refl _ _ | with_reducible refine bal ?_ _ | with_reducible refine bdrew1 ?_))) (by omega) (by omega)) ?_
    rintro e0 w9 ⟨rfl, hO, hC⟩
    have z9 : w8.heap.size + 0 ≤ w9.heap.size := (by have := hC.2.2.2.1; (try simp at this); omega)
    have N9 := L4_4.out
    have K9_p0 : Hid (w9.heap[w.heap.size]? = some (.cells #[.int .i64 a0, .int .u32 a1, .int .i64 a2, .slice A_av3 ax3.length cap_av3] 27 (0, 0))) := Lib.hid ((hC.2.2.2.2 _ (by first | omega | (simp <;> omega)) (fun hm => by first | (have := N9 _ hm; omega))).trans (by repeat (first | with_reducible exact K8_p0.out | with_reducible exact blkal K8_p0.out _ | with_reducible exact blkal (blkal K8_p0.out _) _ | exact K8_p0.out | exact blknew _ _ | exact blknew' _ _ _ (by simp) | with_reducible refine blkal ?_ _ | with_reducible refine blkdrew ?_)))
    have K9_s4 : Hid (w9.heap[w3.heap.size]? = some (.cells #[.int .i64 r00, .int .u32 r01, .int .i64 r02, .slice A3_03 R03.length cap3_03] 34 (0, 0))) := Lib.hid ((hC.2.2.2.2 _ (by first | omega | (simp <;> omega)) (fun hm => by first | (have := N9 _ hm; omega))).trans (by repeat (first | with_reducible exact K8_s4.out | with_reducible exact blkal K8_s4.out _ | with_reducible exact blkal (blkal K8_s4.out _) _ | exact K8_s4.out | exact blknew _ _ | exact blknew' _ _ _ (by simp) | with_reducible refine blkal ?_ _ | with_reducible refine blkdrew ?_)))
    have K9_s6 : Hid (w9.heap[w4.heap.size]? = some (.cells #[.int .i64 a0, .int .u32 a1, .int .i64 a2, .slice A4 ax3.length cap4] 34 (0, 0))) := Lib.hid ((hC.2.2.2.2 _ (by first | omega | (simp <;> omega)) (fun hm => by first | (have := N9 _ hm; omega))).trans (by repeat (first | with_reducible exact K8_s6.out | with_reducible exact blkal K8_s6.out _ | with_reducible exact blkal (blkal K8_s6.out _) _ | exact K8_s6.out | exact blknew _ _ | exact blknew' _ _ _ (by simp) | with_reducible refine blkal ?_ _ | with_reducible refine blkdrew ?_)))
    have K9_s7 : Hid (w9.heap[w5.heap.size]? = some (.cells #[.int .i64 r00, .int .u32 r01, .int .i64 r02, .slice A5_03 R03.length cap5_03] 34 (0, 0))) := Lib.hid ((hC.2.2.2.2 _ (by first | omega | (simp <;> omega)) (fun hm => by first | (have := N9 _ hm; omega))).trans (by repeat (first | with_reducible exact K8_s7.out | with_reducible exact blkal K8_s7.out _ | with_reducible exact blkal (blkal K8_s7.out _) _ | exact K8_s7.out | exact blknew _ _ | exact blknew' _ _ _ (by simp) | with_reducible refine blkal ?_ _ | with_reducible refine blkdrew ?_)))
    have O9_2 := Lib.hid (Own.bchgR O8_2.out (by repeat (first | with_reducible exact Below.refl _ _ | with_reducible refine bal ?_ _ | with_reducible refine bdrew1 ?_)) hC (fun b g1 g2 => by have := L2_2.out b g1; have := N9 b g2; omega))
    have O9_3_03 := Lib.hid (Own.bchgR O8_3_03.out (by repeat (first | with_reducible exact Below.refl _ _ | with_reducible refine bal ?_ _ | with_reducible refine bdrew1 ?_)) hC (fun b g1 g2 => by have := L3_3_03.out b g1; have := N9 b g2; omega))
    have O9_4 := Lib.hid hO
    have O9_5_03 := Lib.hid (Own.bchgR O8_5_03.out (by repeat (first | with_reducible exact Below.refl _ _ | with_reducible refine bal ?_ _ | with_reducible refine bdrew1 ?_)) hC (fun b g1 g2 => by have := L5_5_03.out b g1; have := N9 b g2; omega))
    have O9_7 := Lib.hid (Own.bchgR O8_7.out (by repeat (first | with_reducible exact Below.refl _ _ | with_reducible refine bal ?_ _ | with_reducible refine bdrew1 ?_)) hC (fun b g1 g2 => by have := L7_7.out b g1; have := N9 b g2; omega))
    have B9 : Hid (Below w.heap.size w w9) := Lib.hid (Below.trans (by repeat (first | with_reducible exact B8.out | with_reducible refine bal ?_ _ | with_reducible refine bdrew1 ?_)) (hC.below (B := w.heap.size) (fun b g2 => by have := N9 b g2; omega) (by first | omega | (simp; omega))))
    clear O8_2 O8_3_03 O8_4 O8_5_03 O8_7 K8_p0 K8_s4 K8_s6 K8_s7 B8 hC N9 c8_p00 c8_p01 c8_p02 c8_p03 y8_p0 c8_s40 c8_s41 c8_s42 c8_s43 y8_s4 c8_s60 c8_s61 c8_s62 c8_s63 y8_s6 c8_s70 c8_s71 c8_s72 c8_s73 y8_s7
    obtain ⟨c9_p00, c9_p01, c9_p02, c9_p03⟩ := blkc4 K9_p0.out
    have y9_p0 : w.heap.size < w9.heap.size := blklt K9_p0.out
    obtain ⟨c9_s40, c9_s41, c9_s42, c9_s43⟩ := blkc4 K9_s4.out
    have y9_s4 : w3.heap.size < w9.heap.size := blklt K9_s4.out
    obtain ⟨c9_s60, c9_s61, c9_s62, c9_s63⟩ := blkc4 K9_s6.out
    have y9_s6 : w4.heap.size < w9.heap.size := blklt K9_s6.out
    obtain ⟨c9_s70, c9_s71, c9_s72, c9_s73⟩ := blkc4 K9_s7.out
    have y9_s7 : w5.heap.size < w9.heap.size := blklt K9_s7.out
    have hk9 : (0 : Int) ≤ 1 + 5 * (ax3.length : Int) := (by omega)
    have hq9 : ((1 + 5 * (ax3.length : Int)) != (1 + 5 * (ax3.length : Int))) = false := (by simp)
    go_wp2_with fail
    refine Calls.mono (eqFlagSum_same _ _ _ _ R03 _ _ (O9_5_03.out.lst.below (by repeat (first | with_reducible exact Below.refl _ _ | with_reducible refine bal ?_ _ | with_reducible refine bdrew1 ?_))) (O9_3_03.out.lst.below (by repeat (first | with_reducible exact Below.refl _ _ | with_reducible refine bal ?_ _ | with_reducible refine bdrew1 ?_))) (by omega)) ?_
    rintro e0 w10 ⟨rfl, hb⟩
    have z10 : w9.heap.size + 0 ≤ w10.heap.size := (by have := hb.size; (try simp at this); omega)
    have K10_p0 : Hid (w10.heap[w.heap.size]? = some (.cells #[.int .i64 a0, .int .u32 a1, .int .i64 a2, .slice A_av3 ax3.length cap_av3] 27 (0, 0))) := Lib.hid ((hb.block _ (by first | omega | (simp <;> omega))).trans (by repeat (first | with_reducible exact K9_p0.out | with_reducible exact blkal K9_p0.out _ | with_reducible exact blkal (blkal K9_p0.out _) _ | exact K9_p0.out | exact blknew _ _ | exact blknew' _ _ _ (by simp) | with_reducible refine blkal ?_ _ | with_reducible refine blkdrew ?_)))
    have K10_s4 : Hid (w10.heap[w3.heap.size]? = some (.cells #[.int .i64 r00, .int .u32 r01, .int .i64 r02, .slice A3_03 R03.length cap3_03] 34 (0, 0))) := Lib.hid ((hb.block _ (by first | omega | (simp <;> omega))).trans (by repeat (first | with_reducible exact K9_s4.out | with_reducible exact blkal K9_s4.out _ | with_reducible exact blkal (blkal K9_s4.out _) _ | exact K9_s4.out | exact blknew _ _ | exact blknew' _ _ _ (by simp) | with_reducible refine blkal ?_ _ | with_reducible refine blkdrew ?_)))
    have K10_s6 : Hid (w10.heap[w4.heap.size]? = some (.cells #[.int .i64 a0, .int .u32 a1, .int .i64 a2, .slice A4 ax3.length cap4] 34 (0, 0))) := Lib.hid ((hb.block _ (by first | omega | (simp <;> omega))).trans (by repeat (first | with_reducible exact K9_s6.out | with_reducible exact blkal K9_s6.out _ | with_reducible exact blkal (blkal K9_s6.out _) _ | exact K9_s6.out | exact blknew _ _ | exact blknew' _ _ _ (by simp) | with_reducible refine blkal ?_ _ | with_reducible refine blkdrew ?_)))
    have K10_s7 : Hid (w10.heap[w5.heap.size]? = some (.cells #[.int .i64 r00, .int .u32 r01, .int .i64 r02, .slice A5_03 R03.length cap5_03] 34 (0, 0))) := Lib.hid ((hb.block _ (by first | omega | (simp <;> omega))).trans (by repeat (first | with_reducible exact K9_s7.out | with_reducible exact blkal K9_s7.out _ | with_reducible exact blkal (blkal K9_s7.out _) _ | exact K9_s7.out | exact blknew _ _ | exact blknew' _ _ _ (by simp) | with_reducible refine blkal ?_ _ | with_reducible refine blkdrew ?_)))
    have O10_2 := Lib.hid (O9_2.out.below (Nat.le_refl _) (bthen (by repeat (first | with_reducible exact Below.refl _ _ | with_reducible refine bal ?_ _ | with_reducible refine bdrew1 ?_)) hb))
    have O10_3_03 := Lib.hid (O9_3_03.out.below (Nat.le_refl _) (bthen (by repeat (first | with_reducible exact Below.refl _ _ | with_reducible refine bal ?_ _ | with_reducible refine bdrew1 ?_)) hb))
    have O10_4 := Lib.hid (O9_4.out.below (Nat.le_refl _) (bthen (by repeat (first | with_reducible exact Below.refl _ _ | with_reducible refine bal ?_ _ | with_reducible refine bdrew1 ?_)) hb))
    have O10_5_03 := Lib.hid (O9_5_03.out.below (Nat.le_refl _) (bthen (by repeat (first | with_reducible exact Below.refl _ _ | with_reducible refine bal ?_ _ | with_reducible refine bdrew1 ?_)) hb))
    have O10_7 := Lib.hid (O9_7.out.below (Nat.le_refl _) (bthen (by repeat (first | with_reducible exact Below.refl _ _ | with_reducible refine bal ?_ _ | with_reducible refine bdrew1 ?_)) hb))
    have B10 : Hid (Below w.heap.size w w10) := Lib.hid (bthen (by repeat (first | with_reducible exact B9.out | with_reducible refine bal ?_ _ | with_reducible refine bdrew1 ?_)) hb)
    clear O9_2 O9_3_03 O9_4 O9_5_03 O9_7 K9_p0 K9_s4 K9_s6 K9_s7 B9 hb c9_p00 c9_p01 c9_p02 c9_p03 y9_p0 c9_s40 c9_s41 c9_s42 c9_s43 y9_s4 c9_s60 c9_s61 c9_s62 c9_s63 y9_s6 c9_s70 c9_s71 c9_s72 c9_s73 y9_s7
    obtain ⟨c10_p00, c10_p01, c10_p02, c10_p03⟩ := blkc4 K10_p0.out
    have y10_p0 : w.heap.size < w10.heap.size := blklt K10_p0.out
    obtain ⟨c10_s40, c10_s41, c10_s42, c10_s43⟩ := blkc4 K10_s4.out
    have y10_s4 : w3.heap.size < w10.heap.size := blklt K10_s4.out
    obtain ⟨c10_s60, c10_s61, c10_s62, c10_s63⟩ := blkc4 K10_s6.out
    have y10_s6 : w4.heap.size < w10.heap.size := blklt K10_s6.out
    obtain ⟨c10_s70, c10_s71, c10_s72, c10_s73⟩ := blkc4 K10_s7.out
    have y10_s7 : w5.heap.size < w10.heap.size := blklt K10_s7.out
    go_wp2_with fail
    refine Calls.mono (markFlagSum_any _ _ _ _ _ R03 _ _ _ (O10_5_03.out.below (Nat.le_refl _) (by repeat (first | with_reducible exact Below.refl _ _ | with_reducible refine bal ?_ _ | with_reducible refine bdrew1 ?_))) (by omega) (by omega)) ?_
    rintro e0 w11 ⟨rfl, hO, hC⟩
    have z11 : w10.heap.size + 0 ≤ w11.heap.size := (by have := hC.2.2.2.1; (try simp at this); omega)
    have N11 := L5_5_03.out
    have K11_p0 : Hid (w11.heap[w.heap.size]? = some (.cells #[.int .i64 a0, .int .u32 a1, .int .i64 a2, .slice A_av3 ax3.length cap_av3] 27 (0, 0))) := Lib.hid ((hC.2.2.2.2 _ (by first | omega | (simp <;> omega)) (fun hm => by first | (have := N11 _ hm; omega))).trans (by repeat (first | with_reducible exact K10_p0.out | with_reducible exact blkal K10_p0.out _ | with_reducible exact blkal (blkal K10_p0.out _) _ | exact K10_p0.out | exact blknew _ _ | exact blknew' _ _ _ (by simp) | with_reducible refine blkal ?_ _ | with_reducible refine blkdrew ?_)))
    have K11_s4 : Hid (w11.heap[w3.heap.size]? = some (.cells #[.int .i64 r00, .int .u32 r01, .int .i64 r02, .slice A3_03 R03.length cap3_03] 34 (0, 0))) := Lib.hid ((hC.2.2.2.2 _ (by first | omega | (simp <;> omega)) (fun hm => by first | (have := N11 _ hm; omega))).trans (by repeat (first | with_reducible exact K10_s4.out | with_reducible exact blkal K10_s4.out _ | with_reducible exact blkal (blkal K10_s4.out _) _ | exact K10_s4.out | exact blknew _ _ | exact blknew' _ _ _ (by simp) | with_reducible refine blkal ?_ _ | with_reducible refine blkdrew ?_)))
    have K11_s6 : Hid (w11.heap[w4.heap.size]? = some (.cells #[.int .i64 a0, .int .u32 a1, .int .i64 a2, .slice A4 ax3.length cap4] 34 (0, 0))) := Lib.hid ((hC.2.2.2.2 _ (by first | omega | (simp <;> omega)) (fun hm => by first | (have := N11 _ hm; omega))).trans (by repeat (first | with_reducible exact K10_s6.out | with_reducible exact blkal K10_s6.out _ | with_reducible exact blkal (blkal K10_s6.out _) _ | exact K10_s6.out | exact blknew _ _ | exact blknew' _ _ _ (by simp) | with_reducible refine blkal ?_ _ | with_reducible refine blkdrew ?_)))
    have K11_s7 : Hid (w11.heap[w5.heap.size]? = some (.cells #[.int .i64 r00, .int .u32 r01, .int .i64 r02, .slice A5_03 R03.length cap5_03] 34 (0, 0))) := Lib.hid ((hC.2.2.2.2 _ (by first | omega | (simp <;> omega)) (fun hm => by first | (have := N11 _ hm; omega))).trans (by repeat (first | with_reducible exact K10_s7.out | with_reducible exact blkal K10_s7.out _ | with_reducible exact blkal (blkal K10_s7.out _) _ | exact K10_s7.out | exact blknew _ _ | exact blknew' _ _ _ (by simp) | with_reducible refine blkal ?_ _ | with_reducible refine blkdrew ?_)))
    have O11_2 := Lib.hid (Own.bchgR O10_2.out (by repeat (first | with_reducible exact Below.refl _ _ | with_reducible refine bal ?_ _ | with_reducible refine bdrew1 ?_)) hC (fun b g1 g2 => by have := L2_2.out b g1; have := N11 b g2; omega))
    have O11_3_03 := Lib.hid (Own.bchgR O10_3_03.out (by repeat (first | with_reducible exact Below.refl _ _ | with_reducible refine bal ?_ _ | with_reducible refine bdrew1 ?_)) hC (fun b g1 g2 => by have := L3_3_03.out b g1; have := N11 b g2; omega))
    have O11_4 := Lib.hid (Own.bchgR O10_4.out (by repeat (first | with_reducible exact Below.refl _ _ | with_reducible refine bal ?_ _ | with_reducible refine bdrew1 ?_)) hC (fun b g1 g2 => by have := L4_4.out b g1; have := N11 b g2; omega))
    have O11_5_03 := Lib.hid hO
    have O11_7 := Lib.hid (Own.bchgR O10_7.out (by repeat (first | with_reducible exact Below.refl _ _ | with_reducible refine bal ?_ _ | with_reducible refine bdrew1 ?_)) hC (fun b g1 g2 => by have := L7_7.out b g1; have := N11 b g2; omega))
    have B11 : Hid (Below w.heap.size w w11) := Lib.hid (Below.trans (by repeat (first | with_reducible exact B10.out | with_reducible refine bal ?_ _ | with_reducible refine bdrew1 ?_)) (hC.below (B := w.heap.size) (fun b g2 => by have := N11 b g2; omega) (by first | omega | (simp; omega))))
    clear O10_2 O10_3_03 O10_4 O10_5_03 O10_7 K10_p0 K10_s4 K10_s6 K10_s7 B10 hC N11 c10_p00 c10_p01 c10_p02 c10_p03 y10_p0 c10_s40 c10_s41 c10_s42 c10_s43 y10_s4 c10_s60 c10_s61 c10_s62 c10_s63 y10_s6 c10_s70 c10_s71 c10_s72 c10_s73 y10_s7
    obtain ⟨c11_p00, c11_p01, c11_p02, c11_p03⟩ := blkc4 K11_p0.out
    have y11_p0 : w.heap.size < w11.heap.size := blklt K11_p0.out
    obtain ⟨c11_s40, c11_s41, c11_s42, c11_s43⟩ := blkc4 K11_s4.out
    have y11_s4 : w3.heap.size < w11.heap.size := blklt K11_s4.out
    obtain ⟨c11_s60, c11_s61, c11_s62, c11_s63⟩ := blkc4 K11_s6.out
    have y11_s6 : w4.heap.size < w11.heap.size := blklt K11_s6.out
    obtain ⟨c11_s70, c11_s71, c11_s72, c11_s73⟩ := blkc4 K11_s7.out
    have y11_s7 : w5.heap.size < w11.heap.size := blklt K11_s7.out
    have hk11 : (0 : Int) ≤ 1 + 5 * (R03.length : Int) := (by omega)
    have hq11 : ((1 + 5 * (R03.length : Int)) != (1 + 5 * (R03.length : Int))) = false := (by simp)
    go_wp2_with fail
    refine Calls.mono (heldFlagSum_any _ _ _ _ R03.length _ _ (O11_5_03.out.lst.below (by repeat (first | with_reducible exact Below.refl _ _ | with_reducible refine bal ?_ _ | with_reducible refine bdrew1 ?_))) (by omega) (by omega)) ?_
    rintro e0 w12 ⟨rfl, hb⟩
    have z12 : w11.heap.size + 0 ≤ w12.heap.size := (by have := hb.size; (try simp at this); omega)
    have K12_p0 : Hid (w12.heap[w.heap.size]? = some (.cells #[.int .i64 a0, .int .u32 a1, .int .i64 a2, .slice A_av3 ax3.length cap_av3] 27 (0, 0))) := Lib.hid ((hb.block _ (by first | omega | (simp <;> omega))).trans (by repeat (first | with_reducible exact K11_p0.out | with_reducible exact blkal K11_p0.out _ | with_reducible exact blkal (blkal K11_p0.out _) _ | exact K11_p0.out | exact blknew _ _ | exact blknew' _ _ _ (by simp) | with_reducible refine blkal ?_ _ | with_reducible refine blkdrew ?_)))
    have K12_s4 : Hid (w12.heap[w3.heap.size]? = some (.cells #[.int .i64 r00, .int .u32 r01, .int .i64 r02, .slice A3_03 R03.length cap3_03] 34 (0, 0))) := Lib.hid ((hb.block _ (by first | omega | (simp <;> omega))).trans (by repeat (first | with_reducible exact K11_s4.out | with_reducible exact blkal K11_s4.out _ | with_reducible exact blkal (blkal K11_s4.out _) _ | exact K11_s4.out | exact blknew _ _ | exact blknew' _ _ _ (by simp) | with_reducible refine blkal ?_ _ | with_reducible refine blkdrew ?_)))
    have K12_s6 : Hid (w12.heap[w4.heap.size]? = some (.cells #[.int .i64 a0, .int .u32 a1, .int .i64 a2, .slice A4 ax3.length cap4] 34 (0, 0))) := Lib.hid ((hb.block _ (by first | omega | (simp <;> omega))).trans (by repeat (first | with_reducible exact K11_s6.out | with_reducible exact blkal K11_s6.out _ | with_reducible exact blkal (blkal K11_s6.out _) _ | exact K11_s6.out | exact blknew _ _ | exact blknew' _ _ _ (by simp) | with_reducible refine blkal ?_ _ | with_reducible refine blkdrew ?_)))
    have K12_s7 : Hid (w12.heap[w5.heap.size]? = some (.cells #[.int .i64 r00, .int .u32 r01, .int .i64 r02, .slice A5_03 R03.length cap5_03] 34 (0, 0))) := Lib.hid ((hb.block _ (by first | omega | (simp <;> omega))).trans (by repeat (first | with_reducible exact K11_s7.out | with_reducible exact blkal K11_s7.out _ | with_reducible exact blkal (blkal K11_s7.out _) _ | exact K11_s7.out | exact blknew _ _ | exact blknew' _ _ _ (by simp) | with_reducible refine blkal ?_ _ | with_reducible refine blkdrew ?_)))
    have O12_2 := Lib.hid (O11_2.out.below (Nat.le_refl _) (bthen (by repeat (first | with_reducible exact Below.refl _ _ | with_reducible refine bal ?_ _ | with_reducible refine bdrew1 ?_)) hb))
    have O12_3_03 := Lib.hid (O11_3_03.out.below (Nat.le_refl _) (bthen (by repeat (first | with_reducible exact Below.refl _ _ | with_reducible refine bal ?_ _ | with_reducible refine bdrew1 ?_)) hb))
    have O12_4 := Lib.hid (O11_4.out.below (Nat.le_refl _) (bthen (by repeat (first | with_reducible exact Below.refl _ _ | with_reducible refine bal ?_ _ | with_reducible refine bdrew1 ?_)) hb))
    have O12_5_03 := Lib.hid (O11_5_03.out.below (Nat.le_refl _) (bthen (by repeat (first | with_reducible exact Below.refl _ _ | with_reducible refine bal ?_ _ | with_reducible refine bdrew1 ?_)) hb))
    have O12_7 := Lib.hid (O11_7.out.below (Nat.le_refl _) (bthen (by repeat (first | with_reducible exact Below.refl _ _ | with_reducible refine bal ?_ _ | with_reducible refine bdrew1 ?_)) hb))
    have B12 : Hid (Below w.heap.size w w12) := Lib.hid (bthen (by repeat (first | with_reducible exact B11.out | with_reducible refine bal ?_ _ | with_reducible refine bdrew1 ?_)) hb)
    clear O11_2 O11_3_03 O11_4 O11_5_03 O11_7 K11_p0 K11_s4 K11_s6 K11_s7 B11 hb c11_p00 c11_p01 c11_p02 c11_p03 y11_p0 c11_s40 c11_s41 c11_s42 c11_s43 y11_s4 c11_s60 c11_s61 c11_s62 c11_s63 y11_s6 c11_s70 c11_s71 c11_s72 c11_s73 y11_s7
    obtain ⟨c12_p00, c12_p01, c12_p02, c12_p03⟩ := blkc4 K12_p0.out
    have y12_p0 : w.heap.size < w12.heap.size := blklt K12_p0.out
    obtain ⟨c12_s40, c12_s41, c12_s42, c12_s43⟩ := blkc4 K12_s4.out
    have y12_s4 : w3.heap.size < w12.heap.size := blklt K12_s4.out
    obtain ⟨c12_s60, c12_s61, c12_s62, c12_s63⟩ := blkc4 K12_s6.out
    have y12_s6 : w4.heap.size < w12.heap.size := blklt K12_s6.out
    obtain ⟨c12_s70, c12_s71, c12_s72, c12_s73⟩ := blkc4 K12_s7.out
    have y12_s7 : w5.heap.size < w12.heap.size := blklt K12_s7.out
    go_wp2_with fail
    refine Calls.mono (toFlagSum_any _ _ _ _ ax3 _ (ah3.below (by repeat (first | with_reducible exact B12.out | with_reducible refine bal ?_ _ | with_reducible refine bdrew1 ?_))) (by omega)) ?_
    rintro e0 w13 ⟨A13, cap13, F13, rfl, hO, hb⟩
    have z13 : w12.heap.size + 0 ≤ w13.heap.size := (by have := hb.size; (try simp at this); omega)
    have K13_p0 : Hid (w13.heap[w.heap.size]? = some (.cells #[.int .i64 a0, .int .u32 a1, .int .i64 a2, .slice A_av3 ax3.length cap_av3] 27 (0, 0))) := Lib.hid ((hb.block _ (by first | omega | (simp <;> omega))).trans (by repeat (first | with_reducible exact K12_p0.out | with_reducible exact blkal K12_p0.out _ | with_reducible exact blkal (blkal K12_p0.out _) _ | exact K12_p0.out | exact blknew _ _ | exact blknew' _ _ _ (by simp) | with_reducible refine blkal ?_ _ | with_reducible refine blkdrew ?_)))
    have K13_s4 : Hid (w13.heap[w3.heap.size]? = some (.cells #[.int .i64 r00, .int .u32 r01, .int .i64 r02, .slice A3_03 R03.length cap3_03] 34 (0, 0))) := Lib.hid ((hb.block _ (by first | omega | (simp <;> omega))).trans (by repeat (first | with_reducible exact K12_s4.out | with_reducible exact blkal K12_s4.out _ | with_reducible exact blkal (blkal K12_s4.out _) _ | exact K12_s4.out | exact blknew _ _ | exact blknew' _ _ _ (by simp) | with_reducible refine blkal ?_ _ | with_reducible refine blkdrew ?_)))
    have K13_s6 : Hid (w13.heap[w4.heap.size]? = some (.cells #[.int .i64 a0, .int .u32 a1, .int .i64 a2, .slice A4 ax3.length cap4] 34 (0, 0))) := Lib.hid ((hb.block _ (by first | omega | (simp <;> omega))).trans (by repeat (first | with_reducible exact K12_s6.out | with_reducible exact blkal K12_s6.out _ | with_reducible exact blkal (blkal K12_s6.out _) _ | exact K12_s6.out | exact blknew _ _ | exact blknew' _ _ _ (by simp) | with_reducible refine blkal ?_ _ | with_reducible refine blkdrew ?_)))
    have K13_s7 : Hid (w13.heap[w5.heap.size]? = some (.cells #[.int .i64 r00, .int .u32 r01, .int .i64 r02, .slice A5_03 R03.length cap5_03] 34 (0, 0))) := Lib.hid ((hb.block _ (by first | omega | (simp <;> omega))).trans (by repeat (first | with_reducible exact K12_s7.out | with_reducible exact blkal K12_s7.out _ | with_reducible exact blkal (blkal K12_s7.out _) _ | exact K12_s7.out | exact blknew _ _ | exact blknew' _ _ _ (by simp) | with_reducible refine blkal ?_ _ | with_reducible refine blkdrew ?_)))
    have O13_2 := Lib.hid (O12_2.out.below (Nat.le_refl _) (bthen (by repeat (first | with_reducible exact Below.refl _ _ | with_reducible refine bal ?_ _ | with_reducible refine bdrew1 ?_)) hb))
    have O13_3_03 := Lib.hid (O12_3_03.out.below (Nat.le_refl _) (bthen (by repeat (first | with_reducible exact Below.refl _ _ | with_reducible refine bal ?_ _ | with_reducible refine bdrew1 ?_)) hb))
    have O13_4 := Lib.hid (O12_4.out.below (Nat.le_refl _) (bthen (by repeat (first | with_reducible exact Below.refl _ _ | with_reducible refine bal ?_ _ | with_reducible refine bdrew1 ?_)) hb))
    have O13_5_03 := Lib.hid (O12_5_03.out.below (Nat.le_refl _) (bthen (by repeat (first | with_reducible exact Below.refl _ _ | with_reducible refine bal ?_ _ | with_reducible refine bdrew1 ?_)) hb))
    have O13_7 := Lib.hid (O12_7.out.below (Nat.le_refl _) (bthen (by repeat (first | with_reducible exact Below.refl _ _ | with_reducible refine bal ?_ _ | with_reducible refine bdrew1 ?_)) hb))
    have B13 : Hid (Below w.heap.size w w13) := Lib.hid (bthen (by repeat (first | with_reducible exact B12.out | with_reducible refine bal ?_ _ | with_reducible refine bdrew1 ?_)) hb)
    have L13_13 : Hid (∀ b ∈ F13, w12.heap.size + 0 ≤ b ∧ b < w13.heap.size) := Lib.hid (fun b hm => ⟨by have := hO.ge b hm; (try simp at this); omega, hO.lt b hm⟩)
    have O13_13 := Lib.hid hO
    clear O12_2 O12_3_03 O12_4 O12_5_03 O12_7 K12_p0 K12_s4 K12_s6 K12_s7 hO B12 hb c12_p00 c12_p01 c12_p02 c12_p03 y12_p0 c12_s40 c12_s41 c12_s42 c12_s43 y12_s4 c12_s60 c12_s61 c12_s62 c12_s63 y12_s6 c12_s70 c12_s71 c12_s72 c12_s73 y12_s7
    obtain ⟨c13_p00, c13_p01, c13_p02, c13_p03⟩ := blkc4 K13_p0.out
    have y13_p0 : w.heap.size < w13.heap.size := blklt K13_p0.out
    obtain ⟨c13_s40, c13_s41, c13_s42, c13_s43⟩ := blkc4 K13_s4.out
    have y13_s4 : w3.heap.size < w13.heap.size := blklt K13_s4.out
    obtain ⟨c13_s60, c13_s61, c13_s62, c13_s63⟩ := blkc4 K13_s6.out
    have y13_s6 : w4.heap.size < w13.heap.size := blklt K13_s6.out
    obtain ⟨c13_s70, c13_s71, c13_s72, c13_s73⟩ := blkc4 K13_s7.out
    have y13_s7 : w5.heap.size < w13.heap.size := blklt K13_s7.out
    go_wp2_with fail
    refine Calls.mono (HI.out _ _ (O13_13.out.lst.below (by repeat (first | with_reducible exact Below.refl _ _ | with_reducible refine bal ?_ _ | with_reducible refine bdrew1 ?_))) (by omega)) ?_
    rintro e0 w14 ⟨A14_03, cap14_03, F14_03, rfl, hO_03, hb⟩
    have z14 : w13.heap.size + 0 ≤ w14.heap.size := (by have := hb.size; (try simp at this); omega)
    have K14_p0 : Hid (w14.heap[w.heap.size]? = some (.cells #[.int .i64 a0, .int .u32 a1, .int .i64 a2, .slice A_av3 ax3.length cap_av3] 27 (0, 0))) := Lib.hid ((hb.block _ (by first | omega | (simp <;> omega))).trans (by repeat (first | with_reducible exact K13_p0.out | with_reducible exact blkal K13_p0.out _ | with_reducible exact blkal (blkal K13_p0.out _) _ | exact K13_p0.out | exact blknew _ _ | exact blknew' _ _ _ (by simp) | with_reducible refine blkal ?_ _ | with_reducible refine blkdrew ?_)))
    have K14_s4 : Hid (w14.heap[w3.heap.size]? = some (.cells #[.int .i64 r00, .int .u32 r01, .int .i64 r02, .slice A3_03 R03.length cap3_03] 34 (0, 0))) := Lib.hid ((hb.block _ (by first | omega | (simp <;> omega))).trans (by repeat (first | with_reducible exact K13_s4.out | with_reducible exact blkal K13_s4.out _ | with_reducible exact blkal (blkal K13_s4.out _) _ | exact K13_s4.out | exact blknew _ _ | exact blknew' _ _ _ (by simp) | with_reducible refine blkal ?_ _ | with_reducible refine blkdrew ?_)))
    have K14_s6 : Hid (w14.heap[w4.heap.size]? = some (.cells #[.int .i64 a0, .int .u32 a1, .int .i64 a2, .slice A4 ax3.length cap4] 34 (0, 0))) := Lib.hid ((hb.block _ (by first | omega | (simp <;> omega))).trans (by repeat (first | with_reducible exact K13_s6.out | with_reducible exact blkal K13_s6.out _ | with_reducible exact blkal (blkal K13_s6.out _) _ | exact K13_s6.out | exact blknew _ _ | exact blknew' _ _ _ (by simp) | with_reducible refine blkal ?_ _ | with_reducible refine blkdrew ?_)))
    have K14_s7 : Hid (w14.heap[w5.heap.size]? = some (.cells #[.int .i64 r00, .int .u32 r01, .int .i64 r02, .slice A5_03 R03.length cap5_03] 34 (0, 0))) := Lib.hid ((hb.block _ (by first | omega | (simp <;> omega))).trans (by repeat (first | with_reducible exact K13_s7.out | with_reducible exact blkal K13_s7.out _ | with_reducible exact blkal (blkal K13_s7.out _) _ | exact K13_s7.out | exact blknew _ _ | exact blknew' _ _ _ (by simp) | with_reducible refine blkal ?_ _ | with_reducible refine blkdrew ?_)))
    have O14_2 := Lib.hid (O13_2.out.below (Nat.le_refl _) (bthen (by repeat (first | with_reducible exact Below.refl _ _ | with_reducible refine bal ?_ _ | with_reducible refine bdrew1 ?_)) hb))
    have O14_3_03 := Lib.hid (O13_3_03.out.below (Nat.le_refl _) (bthen (by repeat (first | with_reducible exact Below.refl _ _ | with_reducible refine bal ?_ _ | with_reducible refine bdrew1 ?_)) hb))
    have O14_4 := Lib.hid (O13_4.out.below (Nat.le_refl _) (bthen (by repeat (first | with_reducible exact Below.refl _ _ | with_reducible refine bal ?_ _ | with_reducible refine bdrew1 ?_)) hb))
    have O14_5_03 := Lib.hid (O13_5_03.out.below (Nat.le_refl _) (bthen (by repeat (first | with_reducible exact Below.refl _ _ | with_reducible refine bal ?_ _ | with_reducible refine bdrew1 ?_)) hb))
    have O14_7 := Lib.hid (O13_7.out.below (Nat.le_refl _) (bthen (by repeat (first | with_reducible exact Below.refl _ _ | with_reducible refine bal ?_ _ | with_reducible refine bdrew1 ?_)) hb))
    have O14_13 := Lib.hid (O13_13.out.below (Nat.le_refl _) (bthen (by repeat (first | with_reducible exact Below.refl _ _ | with_reducible refine bal ?_ _ | with_reducible refine bdrew1 ?_)) hb))
    have B14 : Hid (Below w.heap.size w w14) := Lib.hid (bthen (by repeat (first | with_reducible exact B13.out | with_reducible refine bal ?_ _ | with_reducible refine bdrew1 ?_)) hb)
    have L14_14_03 : Hid (∀ b ∈ F14_03, w13.heap.size + 0 ≤ b ∧ b < w14.heap.size) := Lib.hid (fun b hm => ⟨by have := hO_03.ge b hm; (try simp at this); omega, hO_03.lt b hm⟩)
    have O14_14_03 := Lib.hid hO_03
    clear O13_2 O13_3_03 O13_4 O13_5_03 O13_7 O13_13 K13_p0 K13_s4 K13_s6 K13_s7 hO_03 B13 hb c13_p00 c13_p01 c13_p02 c13_p03 y13_p0 c13_s40 c13_s41 c13_s42 c13_s43 y13_s4 c13_s60 c13_s61 c13_s62 c13_s63 y13_s6 c13_s70 c13_s71 c13_s72 c13_s73 y13_s7
    obtain ⟨c14_p00, c14_p01, c14_p02, c14_p03⟩ := blkc4 K14_p0.out
    have y14_p0 : w.heap.size < w14.heap.size := blklt K14_p0.out
    obtain ⟨c14_s40, c14_s41, c14_s42, c14_s43⟩ := blkc4 K14_s4.out
    have y14_s4 : w3.heap.size < w14.heap.size := blklt K14_s4.out
    obtain ⟨c14_s60, c14_s61, c14_s62, c14_s63⟩ := blkc4 K14_s6.out
    have y14_s6 : w4.heap.size < w14.heap.size := blklt K14_s6.out
    obtain ⟨c14_s70, c14_s71, c14_s72, c14_s73⟩ := blkc4 K14_s7.out
    have y14_s7 : w5.heap.size < w14.heap.size := blklt K14_s7.out
    go_wp2_with fail
    refine Calls.mono (eqFlagSum_same _ _ _ _ R03 _ _ (O14_14_03.out.lst.below (by repeat (first | with_reducible exact Below.refl _ _ | with_reducible refine bal ?_ _ | with_reducible refine bdrew1 ?_))) (O14_3_03.out.lst.below (by repeat (first | with_reducible exact Below.refl _ _ | with_reducible refine bal ?_ _ | with_reducible refine bdrew1 ?_))) (by omega)) ?_
    rintro e0 w15 ⟨rfl, hb⟩
    have z15 : w14.heap.size + 1 ≤ w15.heap.size := (by have := hb.size; (try simp at this); omega)
    have K15_p0 : Hid (w15.heap[w.heap.size]? = some (.cells #[.int .i64 a0, .int .u32 a1, .int .i64 a2, .slice A_av3 ax3.length cap_av3] 27 (0, 0))) := Lib.hid ((hb.block _ (by first | omega | (simp <;> omega))).trans (by repeat (first | with_reducible exact K14_p0.out | with_reducible exact blkal K14_p0.out _ | with_reducible exact blkal (blkal K14_p0.out _) _ | exact K14_p0.out | exact blknew _ _ | exact blknew' _ _ _ (by simp) | with_reducible refine blkal ?_ _ | with_reducible refine blkdrew ?_)))
    have K15_s4 : Hid (w15.heap[w3.heap.size]? = some (.cells #[.int .i64 r00, .int .u32 r01, .int .i64 r02, .slice A3_03 R03.length cap3_03] 34 (0, 0))) := Lib.hid ((hb.block _ (by first | omega | (simp <;> omega))).trans (by repeat (first | with_reducible exact K14_s4.out | with_reducible exact blkal K14_s4.out _ | with_reducible exact blkal (blkal K14_s4.out _) _ | exact K14_s4.out | exact blknew _ _ | exact blknew' _ _ _ (by simp) | with_reducible refine blkal ?_ _ | with_reducible refine blkdrew ?_)))
    have K15_s6 : Hid (w15.heap[w4.heap.size]? = some (.cells #[.int .i64 a0, .int .u32 a1, .int .i64 a2, .slice A4 ax3.length cap4] 34 (0, 0))) := Lib.hid ((hb.block _ (by first | omega | (simp <;> omega))).trans (by repeat (first | with_reducible exact K14_s6.out | with_reducible exact blkal K14_s6.out _ | with_reducible exact blkal (blkal K14_s6.out _) _ | exact K14_s6.out | exact blknew _ _ | exact blknew' _ _ _ (by simp) | with_reducible refine blkal ?_ _ | with_reducible refine blkdrew ?_)))
    have K15_s7 : Hid (w15.heap[w5.heap.size]? = some (.cells #[.int .i64 r00, .int .u32 r01, .int .i64 r02, .slice A5_03 R03.length cap5_03] 34 (0, 0))) := Lib.hid ((hb.block _ (by first | omega | (simp <;> omega))).trans (by repeat (first | with_reducible exact K14_s7.out | with_reducible exact blkal K14_s7.out _ | with_reducible exact blkal (blkal K14_s7.out _) _ | exact K14_s7.out | exact blknew _ _ | exact blknew' _ _ _ (by simp) | with_reducible refine blkal ?_ _ | with_reducible refine blkdrew ?_)))
    have K15_s12 : Hid (w15.heap[w14.heap.size]? = some (.cells #[.int .i64 r00, .int .u32 r01, .int .i64 r02, .slice A14_03 R03.length cap14_03] 34 (0, 0))) := Lib.hid ((hb.block _ (by first | omega | (simp <;> omega))).trans (by repeat (first | exact blknew _ _ | exact blknew' _ _ _ (by simp) | with_reducible refine blkal ?_ _ | with_reducible refine blkdrew ?_)))
    have O15_2 := Lib.hid (O14_2.out.below (Nat.le_refl _) (bthen (by repeat (first | with_reducible exact Below.refl _ _ | with_reducible refine bal ?_ _ | with_reducible refine bdrew1 ?_)) hb))
    have O15_3_03 := Lib.hid (O14_3_03.out.below (Nat.le_refl _) (bthen (by repeat (first | with_reducible exact Below.refl _ _ | with_reducible refine bal ?_ _ | with_reducible refine bdrew1 ?_)) hb))
    have O15_4 := Lib.hid (O14_4.out.below (Nat.le_refl _) (bthen (by repeat (first | with_reducible exact Below.refl _ _ | with_reducible refine bal ?_ _ | with_reducible refine bdrew1 ?_)) hb))
    have O15_5_03 := Lib.hid (O14_5_03.out.below (Nat.le_refl _) (bthen (by repeat (first | with_reducible exact Below.refl _ _ | with_reducible refine bal ?_ _ | with_reducible refine bdrew1 ?_)) hb))
    have O15_7 := Lib.hid (O14_7.out.below (Nat.le_refl _) (bthen (by repeat (first | with_reducible exact Below.refl _ _ | with_reducible refine bal ?_ _ | with_reducible refine bdrew1 ?_)) hb))
    have O15_13 := Lib.hid (O14_13.out.below (Nat.le_refl _) (bthen (by repeat (first | with_reducible exact Below.refl _ _ | with_reducible refine bal ?_ _ | with_reducible refine bdrew1 ?_)) hb))
    have O15_14_03 := Lib.hid (O14_14_03.out.below (Nat.le_refl _) (bthen (by repeat (first | with_reducible exact Below.refl _ _ | with_reducible refine bal ?_ _ | with_reducible refine bdrew1 ?_)) hb))
    have B15 : Hid (Below w.heap.size w w15) := Lib.hid (bthen (by repeat (first | with_reducible exact B14.out | with_reducible refine bal ?_ _ | with_reducible refine bdrew1 ?_)) hb)
    clear O14_2 O14_3_03 O14_4 O14_5_03 O14_7 O14_13 O14_14_03 K14_p0 K14_s4 K14_s6 K14_s7 B14 hb c14_p00 c14_p01 c14_p02 c14_p03 y14_p0 c14_s40 c14_s41 c14_s42 c14_s43 y14_s4 c14_s60 c14_s61 c14_s62 c14_s63 y14_s6 c14_s70 c14_s71 c14_s72 c14_s73 y14_s7
    obtain ⟨c15_p00, c15_p01, c15_p02, c15_p03⟩ := blkc4 K15_p0.out
    have y15_p0 : w.heap.size < w15.heap.size := blklt K15_p0.out
    obtain ⟨c15_s40, c15_s41, c15_s42, c15_s43⟩ := blkc4 K15_s4.out
    have y15_s4 : w3.heap.size < w15.heap.size := blklt K15_s4.out
    obtain ⟨c15_s60, c15_s61, c15_s62, c15_s63⟩ := blkc4 K15_s6.out
    have y15_s6 : w4.heap.size < w15.heap.size := blklt K15_s6.out
    obtain ⟨c15_s70, c15_s71, c15_s72, c15_s73⟩ := blkc4 K15_s7.out
    have y15_s7 : w5.heap.size < w15.heap.size := blklt K15_s7.out
    obtain ⟨c15_s120, c15_s121, c15_s122, c15_s123⟩ := blkc4 K15_s12.out
    have y15_s12 : w14.heap.size < w15.heap.size := blklt K15_s12.out
    go_wp2_with fail
    refine Calls.mono (heldFlagSum_any _ _ _ _ R03.length _ _ (O15_5_03.out.lst.below (by repeat (first | with_reducible exact Below.refl _ _ | with_reducible refine bal ?_ _ | with_reducible refine bdrew1 ?_))) (by omega) (by omega)) ?_
    rintro e0 w16 ⟨rfl, hb⟩
    have z16 : w15.heap.size + 0 ≤ w16.heap.size := (by have := hb.size; (try simp at this); omega)
    have K16_p0 : Hid (w16.heap[w.heap.size]? = some (.cells #[.int .i64 a0, .int .u32 a1, .int .i64 a2, .slice A_av3 ax3.length cap_av3] 27 (0, 0))) := Lib.hid ((hb.block _ (by first | omega | (simp <;> omega))).trans (by repeat (first | with_reducible exact K15_p0.out | with_reducible exact blkal K15_p0.out _ | with_reducible exact blkal (blkal K15_p0.out _) _ | exact K15_p0.out | exact blknew _ _ | exact blknew' _ _ _ (by simp) | with_reducible refine blkal ?_ _ | with_reducible refine blkdrew ?_)))
    have K16_s4 : Hid (w16.heap[w3.heap.size]? = some (.cells #[.int .i64 r00, .int .u32 r01, .int .i64 r02, .slice A3_03 R03.length cap3_03] 34 (0, 0))) := Lib.hid ((hb.block _ (by first | omega | (simp <;> omega))).trans (by repeat (first | with_reducible exact K15_s4.out | with_reducible exact blkal K15_s4.out _ | with_reducible exact blkal (blkal K15_s4.out _) _ | exact K15_s4.out | exact blknew _ _ | exact blknew' _ _ _ (by simp) | with_reducible refine blkal ?_ _ | with_reducible refine blkdrew ?_)))
    have K16_s6 : Hid (w16.heap[w4.heap.size]? = some (.cells #[.int .i64 a0, .int .u32 a1, .int .i64 a2, .slice A4 ax3.length cap4] 34 (0, 0))) := Lib.hid ((hb.block _ (by first | omega | (simp <;> omega))).trans (by repeat (first | with_reducible exact K15_s6.out | with_reducible exact blkal K15_s6.out _ | with_reducible exact blkal (blkal K15_s6.out _) _ | exact K15_s6.out | exact blknew _ _ | exact blknew' _ _ _ (by simp) | with_reducible refine blkal ?_ _ | with_reducible refine blkdrew ?_)))
    have K16_s7 : Hid (w16.heap[w5.heap.size]? = some (.cells #[.int .i64 r00, .int .u32 r01, .int .i64 r02, .slice A5_03 R03.length cap5_03] 34 (0, 0))) := Lib.hid ((hb.block _ (by first | omega | (simp <;> omega))).trans (by repeat (first | with_reducible exact K15_s7.out | with_reducible exact blkal K15_s7.out _ | with_reducible exact blkal (blkal K15_s7.out _) _ | exact K15_s7.out | exact blknew _ _ | exact blknew' _ _ _ (by simp) | with_reducible refine blkal ?_ _ | with_reducible refine blkdrew ?_)))
    have K16_s12 : Hid (w16.heap[w14.heap.size]? = some (.cells #[.int .i64 r00, .int .u32 r01, .int .i64 r02, .slice A14_03 R03.length cap14_03] 34 (0, 0))) := Lib.hid ((hb.block _ (by first | omega | (simp <;> omega))).trans (by repeat (first | with_reducible exact K15_s12.out | with_reducible exact blkal K15_s12.out _ | with_reducible exact blkal (blkal K15_s12.out _) _ | exact K15_s12.out | exact blknew _ _ | exact blknew' _ _ _ (by simp) | with_reducible refine blkal ?_ _ | with_reducible refine blkdrew ?_)))
    have O16_2 := Lib.hid (O15_2.out.below (Nat.le_refl _) (bthen (by repeat (first | with_reducible exact Below.refl _ _ | with_reducible refine bal ?_ _ | with_reducible refine bdrew1 ?_)) hb))
    have O16_3_03 := Lib.hid (O15_3_03.out.below (Nat.le_refl _) (bthen (by repeat (first | with_reducible exact Below.refl _ _ | with_reducible refine bal ?_ _ | with_reducible refine bdrew1 ?_)) hb))
    have O16_4 := Lib.hid (O15_4.out.below (Nat.le_refl _) (bthen (by repeat (first | with_reducible exact Below.refl _ _ | with_reducible refine bal ?_ _ | with_reducible refine bdrew1 ?_)) hb))
    have O16_5_03 := Lib.hid (O15_5_03.out.below (Nat.le_refl _) (bthen (by repeat (first | with_reducible exact Below.refl _ _ | with_reducible refine bal ?_ _ | with_reducible refine bdrew1 ?_)) hb))
    have O16_7 := Lib.hid (O15_7.out.below (Nat.le_refl _) (bthen (by repeat (first | with_reducible exact Below.refl _ _ | with_reducible refine bal ?_ _ | with_reducible refine bdrew1 ?_)) hb))
    have O16_13 := Lib.hid (O15_13.out.below (Nat.le_refl _) (bthen (by repeat (first | with_reducible exact Below.refl _ _ | with_reducible refine bal ?_ _ | with_reducible refine bdrew1 ?_)) hb))
    have O16_14_03 := Lib.hid (O15_14_03.out.below (Nat.le_refl _) (bthen (by repeat (first | with_reducible exact Below.refl _ _ | with_reducible refine bal ?_ _ | with_reducible refine bdrew1 ?_)) hb))
    have B16 : Hid (Below w.heap.size w w16) := Lib.hid (bthen (by repeat (first | with_reducible exact B15.out | with_reducible refine bal ?_ _ | with_reducible refine bdrew1 ?_)) hb)
    clear O15_2 O15_3_03 O15_4 O15_5_03 O15_7 O15_13 O15_14_03 K15_p0 K15_s4 K15_s6 K15_s7 K15_s12 B15 hb c15_p00 c15_p01 c15_p02 c15_p03 y15_p0 c15_s40 c15_s41 c15_s42 c15_s43 y15_s4 c15_s60 c15_s61 c15_s62 c15_s63 y15_s6 c15_s70 c15_s71 c15_s72 c15_s73 y15_s7 c15_s120 c15_s121 c15_s122 c15_s123 y15_s12
    obtain ⟨c16_p00, c16_p01, c16_p02, c16_p03⟩ := blkc4 K16_p0.out
    have y16_p0 : w.heap.size < w16.heap.size := blklt K16_p0.out
    obtain ⟨c16_s40, c16_s41, c16_s42, c16_s43⟩ := blkc4 K16_s4.out
    have y16_s4 : w3.heap.size < w16.heap.size := blklt K16_s4.out
    obtain ⟨c16_s60, c16_s61, c16_s62, c16_s63⟩ := blkc4 K16_s6.out
    have y16_s6 : w4.heap.size < w16.heap.size := blklt K16_s6.out
    obtain ⟨c16_s70, c16_s71, c16_s72, c16_s73⟩ := blkc4 K16_s7.out
    have y16_s7 : w5.heap.size < w16.heap.size := blklt K16_s7.out
    obtain ⟨c16_s120, c16_s121, c16_s122, c16_s123⟩ := blkc4 K16_s12.out
    have y16_s12 : w14.heap.size < w16.heap.size := blklt K16_s12.out
    go_wp2_with fail
    exact bodyPost_ret (v := .bool true) (by simp [results, Tryz.results7, go_sem]) rfl ⟨rfl, (by first | exact B16.out | exact bal B16.out _ | exact bal (bal B16.out _) _)⟩
end Go.Proofs.YtpcjinbbgnmchaaGreat

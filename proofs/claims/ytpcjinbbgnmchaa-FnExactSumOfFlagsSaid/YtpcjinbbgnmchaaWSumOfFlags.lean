/- The walk of FnExactSumOfFlags, with what both sides return as hypotheses. -/
import Derived.Test.YtpcjinbbgnmchaaSl
import Derived.Test.YtpcjinbbgnmchaaMSum
import Derived.Test.YtpcjinbbgnmchaaTSum
namespace Go.Proofs.Ytpcjinbbgnmchaa
open Go.ChangeShapes Go.WideShapes Go.ChangeAt Go.RowKit
set_option linter.unusedVariables false
set_option linter.unusedSimpArgs false
attribute [local irreducible] Calls
set_option maxHeartbeats 4000000 in
set_option maxRecDepth 100000 in
theorem walkSumOfFlags (a0 : Int) (a1 : Int) (b0 : Int) (cx0 : List ((Int × (Int × Int)) × (Int × Int))) (cv0 : Value) (r00 : Int) (r01 : Int) (r02 : Int) (R03 : List ((Int × (Int × Int)) × (Int × Int))) (r10 : Int) (mR03 : R03.length ≤ 100000) (HI0 : ∀ (W : World) (u0 : Value), Lst shTerm W cx0 u0 → cx0.length ≤ 1048576 → Calls Try.prog 17 #[.agg #[.int .i64 a0, .int .u32 a1], .int .i64 b0, u0] W fun e W' => ∃ A_03 cap_03 F_03, e = .returned (.tuple #[.agg #[.int .i64 r00, .int .u32 r01, .int .i64 r02, .slice A_03 R03.length cap_03], .int .i64 r10]) ∧ Own shTerm W.heap.size W' R03 (.slice A_03 R03.length cap_03) F_03 ∧ Below W.heap.size W W') (HS0 : ∀ (W : World) (u0 : Value), Lst shTerm W cx0 u0 → cx0.length ≤ 1048576 → Calls Try.prog 14 #[.agg #[.int .i64 a0, .int .u32 a1], .int .i64 b0, u0] W fun e W' => ∃ A_03 cap_03 F_03, e = .returned (.tuple #[.agg #[.int .i64 r00, .int .u32 r01, .int .i64 r02, .slice A_03 R03.length cap_03], .int .i64 r10]) ∧ Own shTerm W.heap.size W' R03 (.slice A_03 R03.length cap_03) F_03 ∧ Below W.heap.size W W') (w : World) (ch0 : Lst shTerm w cx0 cv0) :
    Calls Try.prog 4 #[.agg #[.int .i64 a0, .int .u32 a1], .int .i64 b0, cv0] w fun e0 w' => e0 = .returned (.bool true) ∧ Below w.heap.size w w' := by
  obtain ⟨A_cv0, cap_cv0, rfl, fcx0⟩ := formTerm ch0
  have HI := Lib.hid HI0
  have HS := Lib.hid HS0
  clear HI0 HS0
  have qr00 : (r00 != r00) = false := by simp
  have qr01 : (r01 != r01) = false := by simp
  have qr02 : (r02 != r02) = false := by simp
  have qr10 : (r10 != r10) = false := by simp
  have d0 := szI_bd (left := 1048576) (n := cx0.length) (by omega) (by omega) (by omega)
  by_cases g0 : szI (1048576) cx0.length < 0
  · go_enter Try.func4, Try.ntmps4
    go_wp2_with fail
    refine Calls.mono (szTermS_any _ _ _ _ _ (by omega) (by omega) fcx0.1 fcx0.2) ?_
    rintro e0 w1 ⟨rfl, rfl⟩
    go_wp2_with fail
    exact bodyPost_ret (v := .bool true) (by simp [results, Try.results4, go_sem]) rfl ⟨rfl, (by first | exact belA | exact bal belA _ | exact bal (bal belA _) _)⟩
  · have lcx0 : cx0.length ≤ 1048576 := (by have := szI_pos g0; omega)
    go_enter Try.func4, Try.ntmps4
    go_wp2_with fail
    refine Calls.mono (szTermS_any _ _ _ _ _ (by omega) (by omega) fcx0.1 fcx0.2) ?_
    rintro e0 w1 ⟨rfl, rfl⟩
    go_wp2_with fail
    refine Calls.mono (toGraph_any _ _ _) ?_
    rintro e0 w2 ⟨rfl, hb⟩
    have z2 : w.heap.size + 1 ≤ w2.heap.size := (by have := hb.size; (try simp at this); omega)
    have K2_p0 : Hid (w2.heap[w.heap.size]? = some (.cells #[.int .i64 a0, .int .u32 a1] 24 (0, 0))) := Lib.hid ((hb.block _ (by first | omega | (simp <;> omega))).trans (by repeat (first | exact blknew _ _ | exact blknew' _ _ _ (by simp) | with_reducible refine blkal ?_ _ | with_reducible refine blkdrew ?_)))
    have B2 : Hid (Below w.heap.size w w2) := Lib.hid (bthen belA hb)
    clear hb
    obtain ⟨c2_p00, c2_p01⟩ := blkc2 K2_p0.out
    have y2_p0 : w.heap.size < w2.heap.size := blklt K2_p0.out
    go_wp2_with fail
    refine Calls.mono (toTermS_any _ cx0 _ (ch0.below (by repeat (first | with_reducible exact B2.out | with_reducible refine bal ?_ _ | with_reducible refine bdrew1 ?_))) (by omega)) ?_
    rintro e0 w3 ⟨A3, cap3, F3, rfl, hO, hb⟩
    have z3 : w2.heap.size + 0 ≤ w3.heap.size := (by have := hb.size; (try simp at this); omega)
    have K3_p0 : Hid (w3.heap[w.heap.size]? = some (.cells #[.int .i64 a0, .int .u32 a1] 24 (0, 0))) := Lib.hid ((hb.block _ (by first | omega | (simp <;> omega))).trans (by repeat (first | with_reducible exact K2_p0.out | with_reducible exact blkal K2_p0.out _ | with_reducible exact blkal (blkal K2_p0.out _) _ | exact K2_p0.out | exact blknew _ _ | exact blknew' _ _ _ (by simp) | with_reducible refine blkal ?_ _ | with_reducible refine blkdrew ?_)))
    have B3 : Hid (Below w.heap.size w w3) := Lib.hid (bthen (by repeat (first | with_reducible exact B2.out | with_reducible refine bal ?_ _ | with_reducible refine bdrew1 ?_)) hb)
    have L3_3 : Hid (∀ b ∈ F3, w2.heap.size + 0 ≤ b ∧ b < w3.heap.size) := Lib.hid (fun b hm => ⟨by have := hO.ge b hm; (try simp at this); omega, hO.lt b hm⟩)
    have O3_3 := Lib.hid hO
    clear K2_p0 hO B2 hb c2_p00 c2_p01 y2_p0
    obtain ⟨c3_p00, c3_p01⟩ := blkc2 K3_p0.out
    have y3_p0 : w.heap.size < w3.heap.size := blklt K3_p0.out
    go_wp2_with fail
    refine Calls.mono (HS.out _ _ (O3_3.out.lst.below (by repeat (first | with_reducible exact Below.refl _ _ | with_reducible refine bal ?_ _ | with_reducible refine bdrew1 ?_))) (by omega)) ?_
    rintro e0 w4 ⟨A4_03, cap4_03, F4_03, rfl, hO_03, hb⟩
    have z4 : w3.heap.size + 0 ≤ w4.heap.size := (by have := hb.size; (try simp at this); omega)
    have K4_p0 : Hid (w4.heap[w.heap.size]? = some (.cells #[.int .i64 a0, .int .u32 a1] 24 (0, 0))) := Lib.hid ((hb.block _ (by first | omega | (simp <;> omega))).trans (by repeat (first | with_reducible exact K3_p0.out | with_reducible exact blkal K3_p0.out _ | with_reducible exact blkal (blkal K3_p0.out _) _ | exact K3_p0.out | exact blknew _ _ | exact blknew' _ _ _ (by simp) | with_reducible refine blkal ?_ _ | with_reducible refine blkdrew ?_)))
    have O4_3 := Lib.hid (O3_3.out.below (Nat.le_refl _) (bthen (by repeat (first | with_reducible exact Below.refl _ _ | with_reducible refine bal ?_ _ | with_reducible refine bdrew1 ?_)) hb))
    have B4 : Hid (Below w.heap.size w w4) := Lib.hid (bthen (by repeat (first | with_reducible exact B3.out | with_reducible refine bal ?_ _ | with_reducible refine bdrew1 ?_)) hb)
    have L4_4_03 : Hid (∀ b ∈ F4_03, w3.heap.size + 0 ≤ b ∧ b < w4.heap.size) := Lib.hid (fun b hm => ⟨by have := hO_03.ge b hm; (try simp at this); omega, hO_03.lt b hm⟩)
    have O4_4_03 := Lib.hid hO_03
    clear O3_3 K3_p0 hO_03 B3 hb c3_p00 c3_p01 y3_p0
    obtain ⟨c4_p00, c4_p01⟩ := blkc2 K4_p0.out
    have y4_p0 : w.heap.size < w4.heap.size := blklt K4_p0.out
    go_wp2_with fail
    refine Calls.mono (toTermS_any _ cx0 _ (ch0.below (by repeat (first | with_reducible exact B4.out | with_reducible refine bal ?_ _ | with_reducible refine bdrew1 ?_))) (by omega)) ?_
    rintro e0 w5 ⟨A5, cap5, F5, rfl, hO, hb⟩
    have z5 : w4.heap.size + 1 ≤ w5.heap.size := (by have := hb.size; (try simp at this); omega)
    have K5_p0 : Hid (w5.heap[w.heap.size]? = some (.cells #[.int .i64 a0, .int .u32 a1] 24 (0, 0))) := Lib.hid ((hb.block _ (by first | omega | (simp <;> omega))).trans (by repeat (first | with_reducible exact K4_p0.out | with_reducible exact blkal K4_p0.out _ | with_reducible exact blkal (blkal K4_p0.out _) _ | exact K4_p0.out | exact blknew _ _ | exact blknew' _ _ _ (by simp) | with_reducible refine blkal ?_ _ | with_reducible refine blkdrew ?_)))
    have K5_s8 : Hid (w5.heap[w4.heap.size]? = some (.cells #[.int .i64 r00, .int .u32 r01, .int .i64 r02, .slice A4_03 R03.length cap4_03] 34 (0, 0))) := Lib.hid ((hb.block _ (by first | omega | (simp <;> omega))).trans (by repeat (first | exact blknew _ _ | exact blknew' _ _ _ (by simp) | with_reducible refine blkal ?_ _ | with_reducible refine blkdrew ?_)))
    have O5_3 := Lib.hid (O4_3.out.below (Nat.le_refl _) (bthen (by repeat (first | with_reducible exact Below.refl _ _ | with_reducible refine bal ?_ _ | with_reducible refine bdrew1 ?_)) hb))
    have O5_4_03 := Lib.hid (O4_4_03.out.below (Nat.le_refl _) (bthen (by repeat (first | with_reducible exact Below.refl _ _ | with_reducible refine bal ?_ _ | with_reducible refine bdrew1 ?_)) hb))
    have B5 : Hid (Below w.heap.size w w5) := Lib.hid (bthen (by repeat (first | with_reducible exact B4.out | with_reducible refine bal ?_ _ | with_reducible refine bdrew1 ?_)) hb)
    have L5_5 : Hid (∀ b ∈ F5, w4.heap.size + 1 ≤ b ∧ b < w5.heap.size) := Lib.hid (fun b hm => ⟨by have := hO.ge b hm; (try simp at this); omega, hO.lt b hm⟩)
    have O5_5 := Lib.hid hO
    clear O4_3 O4_4_03 K4_p0 hO B4 hb c4_p00 c4_p01 y4_p0
    obtain ⟨c5_p00, c5_p01⟩ := blkc2 K5_p0.out
    have y5_p0 : w.heap.size < w5.heap.size := blklt K5_p0.out
    obtain ⟨c5_s80, c5_s81, c5_s82, c5_s83⟩ := blkc4 K5_s8.out
    have y5_s8 : w4.heap.size < w5.heap.size := blklt K5_s8.out
    go_wp2_with fail
    refine Calls.mono (toGraph_any _ _ _) ?_
    rintro e0 w6 ⟨rfl, hb⟩
    have z6 : w5.heap.size + 0 ≤ w6.heap.size := (by have := hb.size; (try simp at this); omega)
    have K6_p0 : Hid (w6.heap[w.heap.size]? = some (.cells #[.int .i64 a0, .int .u32 a1] 24 (0, 0))) := Lib.hid ((hb.block _ (by first | omega | (simp <;> omega))).trans (by repeat (first | with_reducible exact K5_p0.out | with_reducible exact blkal K5_p0.out _ | with_reducible exact blkal (blkal K5_p0.out _) _ | exact K5_p0.out | exact blknew _ _ | exact blknew' _ _ _ (by simp) | with_reducible refine blkal ?_ _ | with_reducible refine blkdrew ?_)))
    have K6_s8 : Hid (w6.heap[w4.heap.size]? = some (.cells #[.int .i64 r00, .int .u32 r01, .int .i64 r02, .slice A4_03 R03.length cap4_03] 34 (0, 0))) := Lib.hid ((hb.block _ (by first | omega | (simp <;> omega))).trans (by repeat (first | with_reducible exact K5_s8.out | with_reducible exact blkal K5_s8.out _ | with_reducible exact blkal (blkal K5_s8.out _) _ | exact K5_s8.out | exact blknew _ _ | exact blknew' _ _ _ (by simp) | with_reducible refine blkal ?_ _ | with_reducible refine blkdrew ?_)))
    have O6_3 := Lib.hid (O5_3.out.below (Nat.le_refl _) (bthen (by repeat (first | with_reducible exact Below.refl _ _ | with_reducible refine bal ?_ _ | with_reducible refine bdrew1 ?_)) hb))
    have O6_4_03 := Lib.hid (O5_4_03.out.below (Nat.le_refl _) (bthen (by repeat (first | with_reducible exact Below.refl _ _ | with_reducible refine bal ?_ _ | with_reducible refine bdrew1 ?_)) hb))
    have O6_5 := Lib.hid (O5_5.out.below (Nat.le_refl _) (bthen (by repeat (first | with_reducible exact Below.refl _ _ | with_reducible refine bal ?_ _ | with_reducible refine bdrew1 ?_)) hb))
    have B6 : Hid (Below w.heap.size w w6) := Lib.hid (bthen (by repeat (first | with_reducible exact B5.out | with_reducible refine bal ?_ _ | with_reducible refine bdrew1 ?_)) hb)
    clear O5_3 O5_4_03 O5_5 K5_p0 K5_s8 B5 hb c5_p00 c5_p01 y5_p0 c5_s80 c5_s81 c5_s82 c5_s83 y5_s8
    obtain ⟨c6_p00, c6_p01⟩ := blkc2 K6_p0.out
    have y6_p0 : w.heap.size < w6.heap.size := blklt K6_p0.out
    obtain ⟨c6_s80, c6_s81, c6_s82, c6_s83⟩ := blkc4 K6_s8.out
    have y6_s8 : w4.heap.size < w6.heap.size := blklt K6_s8.out
    go_wp2_with fail
    refine Calls.mono (HI.out _ _ (O6_5.out.lst.below (by repeat (first | with_reducible exact Below.refl _ _ | with_reducible refine bal ?_ _ | with_reducible refine bdrew1 ?_))) (by omega)) ?_
    rintro e0 w7 ⟨A7_03, cap7_03, F7_03, rfl, hO_03, hb⟩
    have z7 : w6.heap.size + 0 ≤ w7.heap.size := (by have := hb.size; (try simp at this); omega)
    have K7_p0 : Hid (w7.heap[w.heap.size]? = some (.cells #[.int .i64 a0, .int .u32 a1] 24 (0, 0))) := Lib.hid ((hb.block _ (by first | omega | (simp <;> omega))).trans (by repeat (first | with_reducible exact K6_p0.out | with_reducible exact blkal K6_p0.out _ | with_reducible exact blkal (blkal K6_p0.out _) _ | exact K6_p0.out | exact blknew _ _ | exact blknew' _ _ _ (by simp) | with_reducible refine blkal ?_ _ | with_reducible refine blkdrew ?_)))
    have K7_s8 : Hid (w7.heap[w4.heap.size]? = some (.cells #[.int .i64 r00, .int .u32 r01, .int .i64 r02, .slice A4_03 R03.length cap4_03] 34 (0, 0))) := Lib.hid ((hb.block _ (by first | omega | (simp <;> omega))).trans (by repeat (first | with_reducible exact K6_s8.out | with_reducible exact blkal K6_s8.out _ | with_reducible exact blkal (blkal K6_s8.out _) _ | exact K6_s8.out | exact blknew _ _ | exact blknew' _ _ _ (by simp) | with_reducible refine blkal ?_ _ | with_reducible refine blkdrew ?_)))
    have O7_3 := Lib.hid (O6_3.out.below (Nat.le_refl _) (bthen (by repeat (first | with_reducible exact Below.refl _ _ | with_reducible refine bal ?_ _ | with_reducible refine bdrew1 ?_)) hb))
    have O7_4_03 := Lib.hid (O6_4_03.out.below (Nat.le_refl _) (bthen (by repeat (first | with_reducible exact Below.refl _ _ | with_reducible refine bal ?_ _ | with_reducible refine bdrew1 ?_)) hb))
    have O7_5 := Lib.hid (O6_5.out.below (Nat.le_refl _) (bthen (by repeat (first | with_reducible exact Below.refl _ _ | with_reducible refine bal ?_ _ | with_reducible refine bdrew1 ?_)) hb))
    have B7 : Hid (Below w.heap.size w w7) := Lib.hid (bthen (by repeat (first | with_reducible exact B6.out | with_reducible refine bal ?_ _ | with_reducible refine bdrew1 ?_)) hb)
    have L7_7_03 : Hid (∀ b ∈ F7_03, w6.heap.size + 0 ≤ b ∧ b < w7.heap.size) := Lib.hid (fun b hm => ⟨by have := hO_03.ge b hm; (try simp at this); omega, hO_03.lt b hm⟩)
    have O7_7_03 := Lib.hid hO_03
    clear O6_3 O6_4_03 O6_5 K6_p0 K6_s8 hO_03 B6 hb c6_p00 c6_p01 y6_p0 c6_s80 c6_s81 c6_s82 c6_s83 y6_s8
    obtain ⟨c7_p00, c7_p01⟩ := blkc2 K7_p0.out
    have y7_p0 : w.heap.size < w7.heap.size := blklt K7_p0.out
    obtain ⟨c7_s80, c7_s81, c7_s82, c7_s83⟩ := blkc4 K7_s8.out
    have y7_s8 : w4.heap.size < w7.heap.size := blklt K7_s8.out
    go_wp2_with fail
    refine Calls.mono (eqFlagSum_same _ _ _ _ R03 _ _ (O7_7_03.out.lst.below (by repeat (first | with_reducible exact Below.refl _ _ | with_reducible refine bal ?_ _ | with_reducible refine bdrew1 ?_))) (O7_4_03.out.lst.below (by repeat (first | with_reducible exact Below.refl _ _ | with_reducible refine bal ?_ _ | with_reducible refine bdrew1 ?_))) (by omega)) ?_
    rintro e0 w8 ⟨rfl, hb⟩
    have z8 : w7.heap.size + 1 ≤ w8.heap.size := (by have := hb.size; (try simp at this); omega)
    have K8_p0 : Hid (w8.heap[w.heap.size]? = some (.cells #[.int .i64 a0, .int .u32 a1] 24 (0, 0))) := Lib.hid ((hb.block _ (by first | omega | (simp <;> omega))).trans (by repeat (first | with_reducible exact K7_p0.out | with_reducible exact blkal K7_p0.out _ | with_reducible exact blkal (blkal K7_p0.out _) _ | exact K7_p0.out | exact blknew _ _ | exact blknew' _ _ _ (by simp) | with_reducible refine blkal ?_ _ | with_reducible refine blkdrew ?_)))
    have K8_s8 : Hid (w8.heap[w4.heap.size]? = some (.cells #[.int .i64 r00, .int .u32 r01, .int .i64 r02, .slice A4_03 R03.length cap4_03] 34 (0, 0))) := Lib.hid ((hb.block _ (by first | omega | (simp <;> omega))).trans (by repeat (first | with_reducible exact K7_s8.out | with_reducible exact blkal K7_s8.out _ | with_reducible exact blkal (blkal K7_s8.out _) _ | exact K7_s8.out | exact blknew _ _ | exact blknew' _ _ _ (by simp) | with_reducible refine blkal ?_ _ | with_reducible refine blkdrew ?_)))
    have K8_s11 : Hid (w8.heap[w7.heap.size]? = some (.cells #[.int .i64 r00, .int .u32 r01, .int .i64 r02, .slice A7_03 R03.length cap7_03] 34 (0, 0))) := Lib.hid ((hb.block _ (by first | omega | (simp <;> omega))).trans (by repeat (first | exact blknew _ _ | exact blknew' _ _ _ (by simp) | with_reducible refine blkal ?_ _ | with_reducible refine blkdrew ?_)))
    have O8_3 := Lib.hid (O7_3.out.below (Nat.le_refl _) (bthen (by repeat (first | with_reducible exact Below.refl _ _ | with_reducible refine bal ?_ _ | with_reducible refine bdrew1 ?_)) hb))
    have O8_4_03 := Lib.hid (O7_4_03.out.below (Nat.le_refl _) (bthen (by repeat (first | with_reducible exact Below.refl _ _ | with_reducible refine bal ?_ _ | with_reducible refine bdrew1 ?_)) hb))
    have O8_5 := Lib.hid (O7_5.out.below (Nat.le_refl _) (bthen (by repeat (first | with_reducible exact Below.refl _ _ | with_reducible refine bal ?_ _ | with_reducible refine bdrew1 ?_)) hb))
    have O8_7_03 := Lib.hid (O7_7_03.out.below (Nat.le_refl _) (bthen (by repeat (first | with_reducible exact Below.refl _ _ | with_reducible refine bal ?_ _ | with_reducible refine bdrew1 ?_)) hb))
    have B8 : Hid (Below w.heap.size w w8) := Lib.hid (bthen (by repeat (first | with_reducible exact B7.out | with_reducible refine bal ?_ _ | with_reducible refine bdrew1 ?_)) hb)
    clear O7_3 O7_4_03 O7_5 O7_7_03 K7_p0 K7_s8 B7 hb c7_p00 c7_p01 y7_p0 c7_s80 c7_s81 c7_s82 c7_s83 y7_s8
    obtain ⟨c8_p00, c8_p01⟩ := blkc2 K8_p0.out
    have y8_p0 : w.heap.size < w8.heap.size := blklt K8_p0.out
    obtain ⟨c8_s80, c8_s81, c8_s82, c8_s83⟩ := blkc4 K8_s8.out
    have y8_s8 : w4.heap.size < w8.heap.size := blklt K8_s8.out
    obtain ⟨c8_s110, c8_s111, c8_s112, c8_s113⟩ := blkc4 K8_s11.out
    have y8_s11 : w7.heap.size < w8.heap.size := blklt K8_s11.out
    go_wp2_with fail
    refine Calls.mono (toTermS_any _ cx0 _ (ch0.below (by repeat (first | with_reducible exact B8.out | with_reducible refine bal ?_ _ | with_reducible refine bdrew1 ?_))) (by omega)) ?_
    rintro e0 w9 ⟨A9, cap9, F9, rfl, hO, hb⟩
    have z9 : w8.heap.size + 0 ≤ w9.heap.size := (by have := hb.size; (try simp at this); omega)
    have K9_p0 : Hid (w9.heap[w.heap.size]? = some (.cells #[.int .i64 a0, .int .u32 a1] 24 (0, 0))) := Lib.hid ((hb.block _ (by first | omega | (simp <;> omega))).trans (by repeat (first | with_reducible exact K8_p0.out | with_reducible exact blkal K8_p0.out _ | with_reducible exact blkal (blkal K8_p0.out _) _ | exact K8_p0.out | exact blknew _ _ | exact blknew' _ _ _ (by simp) | with_reducible refine blkal ?_ _ | with_reducible refine blkdrew ?_)))
    have K9_s8 : Hid (w9.heap[w4.heap.size]? = some (.cells #[.int .i64 r00, .int .u32 r01, .int .i64 r02, .slice A4_03 R03.length cap4_03] 34 (0, 0))) := Lib.hid ((hb.block _ (by first | omega | (simp <;> omega))).trans (by repeat (first | with_reducible exact K8_s8.out | with_reducible exact blkal K8_s8.out _ | with_reducible exact blkal (blkal K8_s8.out _) _ | exact K8_s8.out | exact blknew _ _ | exact blknew' _ _ _ (by simp) | with_reducible refine blkal ?_ _ | with_reducible refine blkdrew ?_)))
    have K9_s11 : Hid (w9.heap[w7.heap.size]? = some (.cells #[.int .i64 r00, .int .u32 r01, .int .i64 r02, .slice A7_03 R03.length cap7_03] 34 (0, 0))) := Lib.hid ((hb.block _ (by first | omega | (simp <;> omega))).trans (by repeat (first | with_reducible exact K8_s11.out | with_reducible exact blkal K8_s11.out _ | with_reducible exact blkal (blkal K8_s11.out _) _ | exact K8_s11.out | exact blknew _ _ | exact blknew' _ _ _ (by simp) | with_reducible refine blkal ?_ _ | with_reducible refine blkdrew ?_)))
    have O9_3 := Lib.hid (O8_3.out.below (Nat.le_refl _) (bthen (by repeat (first | with_reducible exact Below.refl _ _ | with_reducible refine bal ?_ _ | with_reducible refine bdrew1 ?_)) hb))
    have O9_4_03 := Lib.hid (O8_4_03.out.below (Nat.le_refl _) (bthen (by repeat (first | with_reducible exact Below.refl _ _ | with_reducible refine bal ?_ _ | with_reducible refine bdrew1 ?_)) hb))
    have O9_5 := Lib.hid (O8_5.out.below (Nat.le_refl _) (bthen (by repeat (first | with_reducible exact Below.refl _ _ | with_reducible refine bal ?_ _ | with_reducible refine bdrew1 ?_)) hb))
    have O9_7_03 := Lib.hid (O8_7_03.out.below (Nat.le_refl _) (bthen (by repeat (first | with_reducible exact Below.refl _ _ | with_reducible refine bal ?_ _ | with_reducible refine bdrew1 ?_)) hb))
    have B9 : Hid (Below w.heap.size w w9) := Lib.hid (bthen (by repeat (first | with_reducible exact B8.out | with_reducible refine bal ?_ _ | with_reducible refine bdrew1 ?_)) hb)
    have L9_9 : Hid (∀ b ∈ F9, w8.heap.size + 0 ≤ b ∧ b < w9.heap.size) := Lib.hid (fun b hm => ⟨by have := hO.ge b hm; (try simp at this); omega, hO.lt b hm⟩)
    have O9_9 := Lib.hid hO
    clear O8_3 O8_4_03 O8_5 O8_7_03 K8_p0 K8_s8 K8_s11 hO B8 hb c8_p00 c8_p01 y8_p0 c8_s80 c8_s81 c8_s82 c8_s83 y8_s8 c8_s110 c8_s111 c8_s112 c8_s113 y8_s11
    obtain ⟨c9_p00, c9_p01⟩ := blkc2 K9_p0.out
    have y9_p0 : w.heap.size < w9.heap.size := blklt K9_p0.out
    obtain ⟨c9_s80, c9_s81, c9_s82, c9_s83⟩ := blkc4 K9_s8.out
    have y9_s8 : w4.heap.size < w9.heap.size := blklt K9_s8.out
    obtain ⟨c9_s110, c9_s111, c9_s112, c9_s113⟩ := blkc4 K9_s11.out
    have y9_s11 : w7.heap.size < w9.heap.size := blklt K9_s11.out
    go_wp2_with fail
    refine Calls.mono (eqTermS_same _ cx0 _ _ (O9_5.out.lst.below (by repeat (first | with_reducible exact Below.refl _ _ | with_reducible refine bal ?_ _ | with_reducible refine bdrew1 ?_))) (O9_9.out.lst.below (by repeat (first | with_reducible exact Below.refl _ _ | with_reducible refine bal ?_ _ | with_reducible refine bdrew1 ?_))) (by omega)) ?_
    rintro e0 w10 ⟨rfl, hb⟩
    have z10 : w9.heap.size + 0 ≤ w10.heap.size := (by have := hb.size; (try simp at this); omega)
    have K10_p0 : Hid (w10.heap[w.heap.size]? = some (.cells #[.int .i64 a0, .int .u32 a1] 24 (0, 0))) := Lib.hid ((hb.block _ (by first | omega | (simp <;> omega))).trans (by repeat (first | with_reducible exact K9_p0.out | with_reducible exact blkal K9_p0.out _ | with_reducible exact blkal (blkal K9_p0.out _) _ | exact K9_p0.out | exact blknew _ _ | exact blknew' _ _ _ (by simp) | with_reducible refine blkal ?_ _ | with_reducible refine blkdrew ?_)))
    have K10_s8 : Hid (w10.heap[w4.heap.size]? = some (.cells #[.int .i64 r00, .int .u32 r01, .int .i64 r02, .slice A4_03 R03.length cap4_03] 34 (0, 0))) := Lib.hid ((hb.block _ (by first | omega | (simp <;> omega))).trans (by repeat (first | with_reducible exact K9_s8.out | with_reducible exact blkal K9_s8.out _ | with_reducible exact blkal (blkal K9_s8.out _) _ | exact K9_s8.out | exact blknew _ _ | exact blknew' _ _ _ (by simp) | with_reducible refine blkal ?_ _ | with_reducible refine blkdrew ?_)))
    have K10_s11 : Hid (w10.heap[w7.heap.size]? = some (.cells #[.int .i64 r00, .int .u32 r01, .int .i64 r02, .slice A7_03 R03.length cap7_03] 34 (0, 0))) := Lib.hid ((hb.block _ (by first | omega | (simp <;> omega))).trans (by repeat (first | with_reducible exact K9_s11.out | with_reducible exact blkal K9_s11.out _ | with_reducible exact blkal (blkal K9_s11.out _) _ | exact K9_s11.out | exact blknew _ _ | exact blknew' _ _ _ (by simp) | with_reducible refine blkal ?_ _ | with_reducible refine blkdrew ?_)))
    have O10_3 := Lib.hid (O9_3.out.below (Nat.le_refl _) (bthen (by repeat (first | with_reducible exact Below.refl _ _ | with_reducible refine bal ?_ _ | with_reducible refine bdrew1 ?_)) hb))
    have O10_4_03 := Lib.hid (O9_4_03.out.below (Nat.le_refl _) (bthen (by repeat (first | with_reducible exact Below.refl _ _ | with_reducible refine bal ?_ _ | with_reducible refine bdrew1 ?_)) hb))
    have O10_5 := Lib.hid (O9_5.out.below (Nat.le_refl _) (bthen (by repeat (first | with_reducible exact Below.refl _ _ | with_reducible refine bal ?_ _ | with_reducible refine bdrew1 ?_)) hb))
    have O10_7_03 := Lib.hid (O9_7_03.out.below (Nat.le_refl _) (bthen (by repeat (first | with_reducible exact Below.refl _ _ | with_reducible refine bal ?_ _ | with_reducible refine bdrew1 ?_)) hb))
    have O10_9 := Lib.hid (O9_9.out.below (Nat.le_refl _) (bthen (by repeat (first | with_reducible exact Below.refl _ _ | with_reducible refine bal ?_ _ | with_reducible refine bdrew1 ?_)) hb))
    have B10 : Hid (Below w.heap.size w w10) := Lib.hid (bthen (by repeat (first | with_reducible exact B9.out | with_reducible refine bal ?_ _ | with_reducible refine bdrew1 ?_)) hb)
    clear O9_3 O9_4_03 O9_5 O9_7_03 O9_9 K9_p0 K9_s8 K9_s11 B9 hb c9_p00 c9_p01 y9_p0 c9_s80 c9_s81 c9_s82 c9_s83 y9_s8 c9_s110 c9_s111 c9_s112 c9_s113 y9_s11
    obtain ⟨c10_p00, c10_p01⟩ := blkc2 K10_p0.out
    have y10_p0 : w.heap.size < w10.heap.size := blklt K10_p0.out
    obtain ⟨c10_s80, c10_s81, c10_s82, c10_s83⟩ := blkc4 K10_s8.out
    have y10_s8 : w4.heap.size < w10.heap.size := blklt K10_s8.out
    obtain ⟨c10_s110, c10_s111, c10_s112, c10_s113⟩ := blkc4 K10_s11.out
    have y10_s11 : w7.heap.size < w10.heap.size := blklt K10_s11.out
    go_wp2_with fail
    refine Calls.mono (markTermS_any _ _ cx0 _ _ _ (O10_5.out.below (Nat.le_refl _) (by repeat (first | with_reducible exact Below.refl _ _ | with_reducible refine bal ?_ _ | with_reducible refine bdrew1 ?_))) (by omega) (by omega)) ?_
    rintro e0 w11 ⟨rfl, hO, hC⟩
    have z11 : w10.heap.size + 0 ≤ w11.heap.size := (by have := hC.2.2.2.1; (try simp at this); omega)
    have N11 := L5_5.out
    have K11_p0 : Hid (w11.heap[w.heap.size]? = some (.cells #[.int .i64 a0, .int .u32 a1] 24 (0, 0))) := Lib.hid ((hC.2.2.2.2 _ (by first | omega | (simp <;> omega)) (fun hm => by first | (have := N11 _ hm; omega))).trans (by repeat (first | with_reducible exact K10_p0.out | with_reducible exact blkal K10_p0.out _ | with_reducible exact blkal (blkal K10_p0.out _) _ | exact K10_p0.out | exact blknew _ _ | exact blknew' _ _ _ (by simp) | with_reducible refine blkal ?_ _ | with_reducible refine blkdrew ?_)))
    have K11_s8 : Hid (w11.heap[w4.heap.size]? = some (.cells #[.int .i64 r00, .int .u32 r01, .int .i64 r02, .slice A4_03 R03.length cap4_03] 34 (0, 0))) := Lib.hid ((hC.2.2.2.2 _ (by first | omega | (simp <;> omega)) (fun hm => by first | (have := N11 _ hm; omega))).trans (by repeat (first | with_reducible exact K10_s8.out | with_reducible exact blkal K10_s8.out _ | with_reducible exact blkal (blkal K10_s8.out _) _ | exact K10_s8.out | exact blknew _ _ | exact blknew' _ _ _ (by simp) | with_reducible refine blkal ?_ _ | with_reducible refine blkdrew ?_)))
    have K11_s11 : Hid (w11.heap[w7.heap.size]? = some (.cells #[.int .i64 r00, .int .u32 r01, .int .i64 r02, .slice A7_03 R03.length cap7_03] 34 (0, 0))) := Lib.hid ((hC.2.2.2.2 _ (by first | omega | (simp <;> omega)) (fun hm => by first | (have := N11 _ hm; omega))).trans (by repeat (first | with_reducible exact K10_s11.out | with_reducible exact blkal K10_s11.out _ | with_reducible exact blkal (blkal K10_s11.out _) _ | exact K10_s11.out | exact blknew _ _ | exact blknew' _ _ _ (by simp) | with_reducible refine blkal ?_ _ | with_reducible refine blkdrew ?_)))
    have O11_3 := Lib.hid (Own.bchgR O10_3.out (by repeat (first | with_reducible exact Below.refl _ _ | with_reducible refine bal ?_ _ | with_reducible refine bdrew1 ?_)) hC (fun b g1 g2 => by have := L3_3.out b g1; have := N11 b g2; omega))
    have O11_4_03 := Lib.hid (Own.bchgR O10_4_03.out (by repeat (first | with_reducible exact Below.refl _ _ | with_reducible refine bal ?_ _ | with_reducible refine bdrew1 ?_)) hC (fun b g1 g2 => by have := L4_4_03.out b g1; have := N11 b g2; omega))
    have O11_5 := Lib.hid hO
    have O11_7_03 := Lib.hid (Own.bchgR O10_7_03.out (by repeat (first | with_reducible exact Below.refl _ _ | with_reducible refine bal ?_ _ | with_reducible refine bdrew1 ?_)) hC (fun b g1 g2 => by have := L7_7_03.out b g1; have := N11 b g2; omega))
    have O11_9 := Lib.hid (Own.bchgR O10_9.out (by repeat (first | with_reducible exact Below.refl _ _ | with_reducible refine bal ?_ _ | with_reducible refine bdrew1 ?_)) hC (fun b g1 g2 => by have := L9_9.out b g1; have := N11 b g2; omega))
    have B11 : Hid (Below w.heap.size w w11) := Lib.hid (Below.trans (by repeat (first | with_reducible exact B10.out | with_reducible refine bal ?_ _ | with_reducible refine bdrew1 ?_)) (hC.below (B := w.heap.size) (fun b g2 => by have := N11 b g2; omega) (by first | omega | (simp; omega))))
    clear O10_3 O10_4_03 O10_5 O10_7_03 O10_9 K10_p0 K10_s8 K10_s11 B10 hC N11 c10_p00 c10_p01 y10_p0 c10_s80 c10_s81 c10_s82 c10_s83 y10_s8 c10_s110 c10_s111 c10_s112 c10_s113 y10_s11
    obtain ⟨c11_p00, c11_p01⟩ := blkc2 K11_p0.out
    have y11_p0 : w.heap.size < w11.heap.size := blklt K11_p0.out
    obtain ⟨c11_s80, c11_s81, c11_s82, c11_s83⟩ := blkc4 K11_s8.out
    have y11_s8 : w4.heap.size < w11.heap.size := blklt K11_s8.out
    obtain ⟨c11_s110, c11_s111, c11_s112, c11_s113⟩ := blkc4 K11_s11.out
    have y11_s11 : w7.heap.size < w11.heap.size := blklt K11_s11.out
    have hk11 : (0 : Int) ≤ 1 + 5 * (cx0.length : Int) := (by omega)
    have hq11 : ((1 + 5 * (cx0.length : Int)) != (1 + 5 * (cx0.length : Int))) = false := (by simp)
    go_wp2_with fail
    refine Calls.mono (eqFlagSum_same _ _ _ _ R03 _ _ (O11_7_03.out.lst.below (by repeat (first | with_reducible exact Below.refl _ _ | with_reducible refine bal ?_ _ | with_reducible refine bdrew1 ?_))) (O11_4_03.out.lst.below (by repeat (first | with_reducible exact Below.refl _ _ | with_reducible refine bal ?_ _ | with_reducible refine bdrew1 ?_))) (by omega)) ?_
    rintro e0 w12 ⟨rfl, hb⟩
    have z12 : w11.heap.size + 0 ≤ w12.heap.size := (by have := hb.size; (try simp at this); omega)
    have K12_p0 : Hid (w12.heap[w.heap.size]? = some (.cells #[.int .i64 a0, .int .u32 a1] 24 (0, 0))) := Lib.hid ((hb.block _ (by first | omega | (simp <;> omega))).trans (by repeat (first | with_reducible exact K11_p0.out | with_reducible exact blkal K11_p0.out _ | with_reducible exact blkal (blkal K11_p0.out _) _ | exact K11_p0.out | exact blknew _ _ | exact blknew' _ _ _ (by simp) | with_reducible refine blkal ?_ _ | with_reducible refine blkdrew ?_)))
    have K12_s8 : Hid (w12.heap[w4.heap.size]? = some (.cells #[.int .i64 r00, .int .u32 r01, .int .i64 r02, .slice A4_03 R03.length cap4_03] 34 (0, 0))) := Lib.hid ((hb.block _ (by first | omega | (simp <;> omega))).trans (by repeat (first | with_reducible exact K11_s8.out | with_reducible exact blkal K11_s8.out _ | with_reducible exact blkal (blkal K11_s8.out _) _ | exact K11_s8.out | exact blknew _ _ | exact blknew' _ _ _ (by simp) | with_reducible refine blkal ?_ _ | with_reducible refine blkdrew ?_)))
    have K12_s11 : Hid (w12.heap[w7.heap.size]? = some (.cells #[.int .i64 r00, .int .u32 r01, .int .i64 r02, .slice A7_03 R03.length cap7_03] 34 (0, 0))) := Lib.hid ((hb.block _ (by first | omega | (simp <;> omega))).trans (by repeat (first | with_reducible exact K11_s11.out | with_reducible exact blkal K11_s11.out _ | with_reducible exact blkal (blkal K11_s11.out _) _ | exact K11_s11.out | exact blknew _ _ | exact blknew' _ _ _ (by simp) | with_reducible refine blkal ?_ _ | with_reducible refine blkdrew ?_)))
    have O12_3 := Lib.hid (O11_3.out.below (Nat.le_refl _) (bthen (by repeat (first | with_reducible exact Below.refl _ _ | with_reducible refine bal ?_ _ | with_reducible refine bdrew1 ?_)) hb))
    have O12_4_03 := Lib.hid (O11_4_03.out.below (Nat.le_refl _) (bthen (by repeat (first | with_reducible exact Below.refl _ _ | with_reducible refine bal ?_ _ | with_reducible refine bdrew1 ?_)) hb))
    have O12_5 := Lib.hid (O11_5.out.below (Nat.le_refl _) (bthen (by repeat (first | with_reducible exact Below.refl _ _ | with_reducible refine bal ?_ _ | with_reducible refine bdrew1 ?_)) hb))
    have O12_7_03 := Lib.hid (O11_7_03.out.below (Nat.le_refl _) (bthen (by repeat (first | with_reducible exact Below.refl _ _ | with_reducible refine bal ?_ _ | with_reducible refine bdrew1 ?_)) hb))
    have O12_9 := Lib.hid (O11_9.out.below (Nat.le_refl _) (bthen (by repeat (first | with_reducible exact Below.refl _ _ | with_reducible refine bal ?_ _ | with_reducible refine bdrew1 ?_)) hb))
    have B12 : Hid (Below w.heap.size w w12) := Lib.hid (bthen (by repeat (first | with_reducible exact B11.out | with_reducible refine bal ?_ _ | with_reducible refine bdrew1 ?_)) hb)
    clear O11_3 O11_4_03 O11_5 O11_7_03 O11_9 K11_p0 K11_s8 K11_s11 B11 hb c11_p00 c11_p01 y11_p0 c11_s80 c11_s81 c11_s82 c11_s83 y11_s8 c11_s110 c11_s111 c11_s112 c11_s113 y11_s11
    obtain ⟨c12_p00, c12_p01⟩ := blkc2 K12_p0.out
    have y12_p0 : w.heap.size < w12.heap.size := blklt K12_p0.out
    obtain ⟨c12_s80, c12_s81, c12_s82, c12_s83⟩ := blkc4 K12_s8.out
    have y12_s8 : w4.heap.size < w12.heap.size := blklt K12_s8.out
    obtain ⟨c12_s110, c12_s111, c12_s112, c12_s113⟩ := blkc4 K12_s11.out
    have y12_s11 : w7.heap.size < w12.heap.size := blklt K12_s11.out
    go_wp2_with fail
    refine Calls.mono (markFlagSum_any _ _ _ _ _ R03 _ _ _ (O12_7_03.out.below (Nat.le_refl _) (by repeat (first | with_reducible exact Below.refl _ _ | with_reducible refine bal ?_ _ | with_reducible refine bdrew1 ?_))) (by omega) (by omega)) ?_
    rintro e0 w13 ⟨rfl, hO, hC⟩
    have z13 : w12.heap.size + 0 ≤ w13.heap.size := (by have := hC.2.2.2.1; (try simp at this); omega)
    have N13 := L7_7_03.out
    have K13_p0 : Hid (w13.heap[w.heap.size]? = some (.cells #[.int .i64 a0, .int .u32 a1] 24 (0, 0))) := Lib.hid ((hC.2.2.2.2 _ (by first | omega | (simp <;> omega)) (fun hm => by first | (have := N13 _ hm; omega))).trans (by repeat (first | with_reducible exact K12_p0.out | with_reducible exact blkal K12_p0.out _ | with_reducible exact blkal (blkal K12_p0.out _) _ | exact K12_p0.out | exact blknew _ _ | exact blknew' _ _ _ (by simp) | with_reducible refine blkal ?_ _ | with_reducible refine blkdrew ?_)))
    have K13_s8 : Hid (w13.heap[w4.heap.size]? = some (.cells #[.int .i64 r00, .int .u32 r01, .int .i64 r02, .slice A4_03 R03.length cap4_03] 34 (0, 0))) := Lib.hid ((hC.2.2.2.2 _ (by first | omega | (simp <;> omega)) (fun hm => by first | (have := N13 _ hm; omega))).trans (by repeat (first | with_reducible exact K12_s8.out | with_reducible exact blkal K12_s8.out _ | with_reducible exact blkal (blkal K12_s8.out _) _ | exact K12_s8.out | exact blknew _ _ | exact blknew' _ _ _ (by simp) | with_reducible refine blkal ?_ _ | with_reducible refine blkdrew ?_)))
    have K13_s11 : Hid (w13.heap[w7.heap.size]? = some (.cells #[.int .i64 r00, .int .u32 r01, .int .i64 r02, .slice A7_03 R03.length cap7_03] 34 (0, 0))) := Lib.hid ((hC.2.2.2.2 _ (by first | omega | (simp <;> omega)) (fun hm => by first | (have := N13 _ hm; omega))).trans (by repeat (first | with_reducible exact K12_s11.out | with_reducible exact blkal K12_s11.out _ | with_reducible exact blkal (blkal K12_s11.out _) _ | exact K12_s11.out | exact blknew _ _ | exact blknew' _ _ _ (by simp) | with_reducible refine blkal ?_ _ | with_reducible refine blkdrew ?_)))
    have O13_3 := Lib.hid (Own.bchgR O12_3.out (by repeat (first | with_reducible exact Below.refl _ _ | with_reducible refine bal ?_ _ | with_reducible refine bdrew1 ?_)) hC (fun b g1 g2 => by have := L3_3.out b g1; have := N13 b g2; omega))
    have O13_4_03 := Lib.hid (Own.bchgR O12_4_03.out (by repeat (first | with_reducible exact Below.refl _ _ | with_reducible refine bal ?_ _ | with_reducible refine bdrew1 ?_)) hC (fun b g1 g2 => by have := L4_4_03.out b g1; have := N13 b g2; omega))
    have O13_5 := Lib.hid (Own.bchgR O12_5.out (by repeat (first | with_reducible exact Below.refl _ _ | with_reducible refine bal ?_ _ | with_reducible refine bdrew1 ?_)) hC (fun b g1 g2 => by have := L5_5.out b g1; have := N13 b g2; omega))
    have O13_7_03 := Lib.hid hO
    have O13_9 := Lib.hid (Own.bchgR O12_9.out (by repeat (first | with_reducible exact Below.refl _ _ | with_reducible refine bal ?_ _ | with_reducible refine bdrew1 ?_)) hC (fun b g1 g2 => by have := L9_9.out b g1; have := N13 b g2; omega))
    have B13 : Hid (Below w.heap.size w w13) := Lib.hid (Below.trans (by repeat (first | with_reducible exact B12.out | with_reducible refine bal ?_ _ | with_reducible refine bdrew1 ?_)) (hC.below (B := w.heap.size) (fun b g2 => by have := N13 b g2; omega) (by first | omega | (simp; omega))))
    clear O12_3 O12_4_03 O12_5 O12_7_03 O12_9 K12_p0 K12_s8 K12_s11 B12 hC N13 c12_p00 c12_p01 y12_p0 c12_s80 c12_s81 c12_s82 c12_s83 y12_s8 c12_s110 c12_s111 c12_s112 c12_s113 y12_s11
    obtain ⟨c13_p00, c13_p01⟩ := blkc2 K13_p0.out
    have y13_p0 : w.heap.size < w13.heap.size := blklt K13_p0.out
    obtain ⟨c13_s80, c13_s81, c13_s82, c13_s83⟩ := blkc4 K13_s8.out
    have y13_s8 : w4.heap.size < w13.heap.size := blklt K13_s8.out
    obtain ⟨c13_s110, c13_s111, c13_s112, c13_s113⟩ := blkc4 K13_s11.out
    have y13_s11 : w7.heap.size < w13.heap.size := blklt K13_s11.out
    have hk13 : (0 : Int) ≤ 1 + 5 * (R03.length : Int) := (by omega)
    have hq13 : ((1 + 5 * (R03.length : Int)) != (1 + 5 * (R03.length : Int))) = false := (by simp)
    go_wp2_with fail
    refine Calls.mono (heldFlagSum_any _ _ _ _ R03.length _ _ (O13_7_03.out.lst.below (by repeat (first | with_reducible exact Below.refl _ _ | with_reducible refine bal ?_ _ | with_reducible refine bdrew1 ?_))) (by omega) (by omega)) ?_
    rintro e0 w14 ⟨rfl, hb⟩
    have z14 : w13.heap.size + 0 ≤ w14.heap.size := (by have := hb.size; (try simp at this); omega)
    have K14_p0 : Hid (w14.heap[w.heap.size]? = some (.cells #[.int .i64 a0, .int .u32 a1] 24 (0, 0))) := Lib.hid ((hb.block _ (by first | omega | (simp <;> omega))).trans (by repeat (first | with_reducible exact K13_p0.out | with_reducible exact blkal K13_p0.out _ | with_reducible exact blkal (blkal K13_p0.out _) _ | exact K13_p0.out | exact blknew _ _ | exact blknew' _ _ _ (by simp) | with_reducible refine blkal ?_ _ | with_reducible refine blkdrew ?_)))
    have K14_s8 : Hid (w14.heap[w4.heap.size]? = some (.cells #[.int .i64 r00, .int .u32 r01, .int .i64 r02, .slice A4_03 R03.length cap4_03] 34 (0, 0))) := Lib.hid ((hb.block _ (by first | omega | (simp <;> omega))).trans (by repeat (first | with_reducible exact K13_s8.out | with_reducible exact blkal K13_s8.out _ | with_reducible exact blkal (blkal K13_s8.out _) _ | exact K13_s8.out | exact blknew _ _ | exact blknew' _ _ _ (by simp) | with_reducible refine blkal ?_ _ | with_reducible refine blkdrew ?_)))
    have K14_s11 : Hid (w14.heap[w7.heap.size]? = some (.cells #[.int .i64 r00, .int .u32 r01, .int .i64 r02, .slice A7_03 R03.length cap7_03] 34 (0, 0))) := Lib.hid ((hb.block _ (by first | omega | (simp <;> omega))).trans (by repeat (first | with_reducible exact K13_s11.out | with_reducible exact blkal K13_s11.out _ | with_reducible exact blkal (blkal K13_s11.out _) _ | exact K13_s11.out | exact blknew _ _ | exact blknew' _ _ _ (by simp) | with_reducible refine blkal ?_ _ | with_reducible refine blkdrew ?_)))
    have O14_3 := Lib.hid (O13_3.out.below (Nat.le_refl _) (bthen (by repeat (first | with_reducible exact Below.refl _ _ | with_reducible refine bal ?_ _ | with_reducible refine bdrew1 ?_)) hb))
    have O14_4_03 := Lib.hid (O13_4_03.out.below (Nat.le_refl _) (bthen (by repeat (first | with_reducible exact Below.refl _ _ | with_reducible refine bal ?_ _ | with_reducible refine bdrew1 ?_)) hb))
    have O14_5 := Lib.hid (O13_5.out.below (Nat.le_refl _) (bthen (by repeat (first | with_reducible exact Below.refl _ _ | with_reducible refine bal ?_ _ | with_reducible refine bdrew1 ?_)) hb))
    have O14_7_03 := Lib.hid (O13_7_03.out.below (Nat.le_refl _) (bthen (by repeat (first | with_reducible exact Below.refl _ _ | with_reducible refine bal ?_ _ | with_reducible refine bdrew1 ?_)) hb))
    have O14_9 := Lib.hid (O13_9.out.below (Nat.le_refl _) (bthen (by repeat (first | with_reducible exact Below.refl _ _ | with_reducible refine bal ?_ _ | with_reducible refine bdrew1 ?_)) hb))
    have B14 : Hid (Below w.heap.size w w14) := Lib.hid (bthen (by repeat (first | with_reducible exact B13.out | with_reducible refine bal ?_ _ | with_reducible refine bdrew1 ?_)) hb)
    clear O13_3 O13_4_03 O13_5 O13_7_03 O13_9 K13_p0 K13_s8 K13_s11 B13 hb c13_p00 c13_p01 y13_p0 c13_s80 c13_s81 c13_s82 c13_s83 y13_s8 c13_s110 c13_s111 c13_s112 c13_s113 y13_s11
    obtain ⟨c14_p00, c14_p01⟩ := blkc2 K14_p0.out
    have y14_p0 : w.heap.size < w14.heap.size := blklt K14_p0.out
    obtain ⟨c14_s80, c14_s81, c14_s82, c14_s83⟩ := blkc4 K14_s8.out
    have y14_s8 : w4.heap.size < w14.heap.size := blklt K14_s8.out
    obtain ⟨c14_s110, c14_s111, c14_s112, c14_s113⟩ := blkc4 K14_s11.out
    have y14_s11 : w7.heap.size < w14.heap.size := blklt K14_s11.out
    go_wp2_with fail
    refine Calls.mono (toGraph_any _ _ _) ?_
    rintro e0 w15 ⟨rfl, hb⟩
    have z15 : w14.heap.size + 0 ≤ w15.heap.size := (by have := hb.size; (try simp at this); omega)
    have K15_p0 : Hid (w15.heap[w.heap.size]? = some (.cells #[.int .i64 a0, .int .u32 a1] 24 (0, 0))) := Lib.hid ((hb.block _ (by first | omega | (simp <;> omega))).trans (by repeat (first | with_reducible exact K14_p0.out | with_reducible exact blkal K14_p0.out _ | with_reducible exact blkal (blkal K14_p0.out _) _ | exact K14_p0.out | exact blknew _ _ | exact blknew' _ _ _ (by simp) | with_reducible refine blkal ?_ _ | with_reducible refine blkdrew ?_)))
    have K15_s8 : Hid (w15.heap[w4.heap.size]? = some (.cells #[.int .i64 r00, .int .u32 r01, .int .i64 r02, .slice A4_03 R03.length cap4_03] 34 (0, 0))) := Lib.hid ((hb.block _ (by first | omega | (simp <;> omega))).trans (by repeat (first | with_reducible exact K14_s8.out | with_reducible exact blkal K14_s8.out _ | with_reducible exact blkal (blkal K14_s8.out _) _ | exact K14_s8.out | exact blknew _ _ | exact blknew' _ _ _ (by simp) | with_reducible refine blkal ?_ _ | with_reducible refine blkdrew ?_)))
    have K15_s11 : Hid (w15.heap[w7.heap.size]? = some (.cells #[.int .i64 r00, .int .u32 r01, .int .i64 r02, .slice A7_03 R03.length cap7_03] 34 (0, 0))) := Lib.hid ((hb.block _ (by first | omega | (simp <;> omega))).trans (by repeat (first | with_reducible exact K14_s11.out | with_reducible exact blkal K14_s11.out _ | with_reducible exact blkal (blkal K14_s11.out _) _ | exact K14_s11.out | exact blknew _ _ | exact blknew' _ _ _ (by simp) | with_reducible refine blkal ?_ _ | with_reducible refine blkdrew ?_)))
    have O15_3 := Lib.hid (O14_3.out.below (Nat.le_refl _) (bthen (by repeat (first | with_reducible exact Below.refl _ _ | with_reducible refine bal ?_ _ | with_reducible refine bdrew1 ?_)) hb))
    have O15_4_03 := Lib.hid (O14_4_03.out.below (Nat.le_refl _) (bthen (by repeat (first | with_reducible exact Below.refl _ _ | with_reducible refine bal ?_ _ | with_reducible refine bdrew1 ?_)) hb))
    have O15_5 := Lib.hid (O14_5.out.below (Nat.le_refl _) (bthen (by repeat (first | with_reducible exact Below.refl _ _ | with_reducible refine bal ?_ _ | with_reducible refine bdrew1 ?_)) hb))
    have O15_7_03 := Lib.hid (O14_7_03.out.below (Nat.le_refl _) (bthen (by repeat (first | with_reducible exact Below.refl _ _ | with_reducible refine bal ?_ _ | with_reducible refine bdrew1 ?_)) hb))
    have O15_9 := Lib.hid (O14_9.out.below (Nat.le_refl _) (bthen (by repeat (first | with_reducible exact Below.refl _ _ | with_reducible refine bal ?_ _ | with_reducible refine bdrew1 ?_)) hb))
    have B15 : Hid (Below w.heap.size w w15) := Lib.hid (bthen (by repeat (first | with_reducible exact B14.out | with_reducible refine bal ?_ _ | with_reducible refine bdrew1 ?_)) hb)
    clear O14_3 O14_4_03 O14_5 O14_7_03 O14_9 K14_p0 K14_s8 K14_s11 B14 hb c14_p00 c14_p01 y14_p0 c14_s80 c14_s81 c14_s82 c14_s83 y14_s8 c14_s110 c14_s111 c14_s112 c14_s113 y14_s11
    obtain ⟨c15_p00, c15_p01⟩ := blkc2 K15_p0.out
    have y15_p0 : w.heap.size < w15.heap.size := blklt K15_p0.out
    obtain ⟨c15_s80, c15_s81, c15_s82, c15_s83⟩ := blkc4 K15_s8.out
    have y15_s8 : w4.heap.size < w15.heap.size := blklt K15_s8.out
    obtain ⟨c15_s110, c15_s111, c15_s112, c15_s113⟩ := blkc4 K15_s11.out
    have y15_s11 : w7.heap.size < w15.heap.size := blklt K15_s11.out
    go_wp2_with fail
    refine Calls.mono (toTermS_any _ cx0 _ (ch0.below (by repeat (first | with_reducible exact B15.out | with_reducible refine bal ?_ _ | with_reducible refine bdrew1 ?_))) (by omega)) ?_
    rintro e0 w16 ⟨A16, cap16, F16, rfl, hO, hb⟩
    have z16 : w15.heap.size + 0 ≤ w16.heap.size := (by have := hb.size; (try simp at this); omega)
    have K16_p0 : Hid (w16.heap[w.heap.size]? = some (.cells #[.int .i64 a0, .int .u32 a1] 24 (0, 0))) := Lib.hid ((hb.block _ (by first | omega | (simp <;> omega))).trans (by repeat (first | with_reducible exact K15_p0.out | with_reducible exact blkal K15_p0.out _ | with_reducible exact blkal (blkal K15_p0.out _) _ | exact K15_p0.out | exact blknew _ _ | exact blknew' _ _ _ (by simp) | with_reducible refine blkal ?_ _ | with_reducible refine blkdrew ?_)))
    have K16_s8 : Hid (w16.heap[w4.heap.size]? = some (.cells #[.int .i64 r00, .int .u32 r01, .int .i64 r02, .slice A4_03 R03.length cap4_03] 34 (0, 0))) := Lib.hid ((hb.block _ (by first | omega | (simp <;> omega))).trans (by repeat (first | with_reducible exact K15_s8.out | with_reducible exact blkal K15_s8.out _ | with_reducible exact blkal (blkal K15_s8.out _) _ | exact K15_s8.out | exact blknew _ _ | exact blknew' _ _ _ (by simp) | with_reducible refine blkal ?_ _ | with_reducible refine blkdrew ?_)))
    have K16_s11 : Hid (w16.heap[w7.heap.size]? = some (.cells #[.int .i64 r00, .int .u32 r01, .int .i64 r02, .slice A7_03 R03.length cap7_03] 34 (0, 0))) := Lib.hid ((hb.block _ (by first | omega | (simp <;> omega))).trans (by repeat (first | with_reducible exact K15_s11.out | with_reducible exact blkal K15_s11.out _ | with_reducible exact blkal (blkal K15_s11.out _) _ | exact K15_s11.out | exact blknew _ _ | exact blknew' _ _ _ (by simp) | with_reducible refine blkal ?_ _ | with_reducible refine blkdrew ?_)))
    have O16_3 := Lib.hid (O15_3.out.below (Nat.le_refl _) (bthen (by repeat (first | with_reducible exact Below.refl _ _ | with_reducible refine bal ?_ _ | with_reducible refine bdrew1 ?_)) hb))
    have O16_4_03 := Lib.hid (O15_4_03.out.below (Nat.le_refl _) (bthen (by repeat (first | with_reducible exact Below.refl _ _ | with_reducible refine bal ?_ _ | with_reducible refine bdrew1 ?_)) hb))
    have O16_5 := Lib.hid (O15_5.out.below (Nat.le_refl _) (bthen (by repeat (first | with_reducible exact Below.refl _ _ | with_reducible refine bal ?_ _ | with_reducible refine bdrew1 ?_)) hb))
    have O16_7_03 := Lib.hid (O15_7_03.out.below (Nat.le_refl _) (bthen (by repeat (first | with_reducible exact Below.refl _ _ | with_reducible refine bal ?_ _ | with_reducible refine bdrew1 ?_)) hb))
    have O16_9 := Lib.hid (O15_9.out.below (Nat.le_refl _) (bthen (by repeat (first | with_reducible exact Below.refl _ _ | with_reducible refine bal ?_ _ | with_reducible refine bdrew1 ?_)) hb))
    have B16 : Hid (Below w.heap.size w w16) := Lib.hid (bthen (by repeat (first | with_reducible exact B15.out | with_reducible refine bal ?_ _ | with_reducible refine bdrew1 ?_)) hb)
    have L16_16 : Hid (∀ b ∈ F16, w15.heap.size + 0 ≤ b ∧ b < w16.heap.size) := Lib.hid (fun b hm => ⟨by have := hO.ge b hm; (try simp at this); omega, hO.lt b hm⟩)
    have O16_16 := Lib.hid hO
    clear O15_3 O15_4_03 O15_5 O15_7_03 O15_9 K15_p0 K15_s8 K15_s11 hO B15 hb c15_p00 c15_p01 y15_p0 c15_s80 c15_s81 c15_s82 c15_s83 y15_s8 c15_s110 c15_s111 c15_s112 c15_s113 y15_s11
    obtain ⟨c16_p00, c16_p01⟩ := blkc2 K16_p0.out
    have y16_p0 : w.heap.size < w16.heap.size := blklt K16_p0.out
    obtain ⟨c16_s80, c16_s81, c16_s82, c16_s83⟩ := blkc4 K16_s8.out
    have y16_s8 : w4.heap.size < w16.heap.size := blklt K16_s8.out
    obtain ⟨c16_s110, c16_s111, c16_s112, c16_s113⟩ := blkc4 K16_s11.out
    have y16_s11 : w7.heap.size < w16.heap.size := blklt K16_s11.out
    go_wp2_with fail
    refine Calls.mono (HI.out _ _ (O16_16.out.lst.below (by repeat (first | with_reducible exact Below.refl _ _ | with_reducible refine bal ?_ _ | with_reducible refine bdrew1 ?_))) (by omega)) ?_
    rintro e0 w17 ⟨A17_03, cap17_03, F17_03, rfl, hO_03, hb⟩
    have z17 : w16.heap.size + 0 ≤ w17.heap.size := (by have := hb.size; (try simp at this); omega)
    have K17_p0 : Hid (w17.heap[w.heap.size]? = some (.cells #[.int .i64 a0, .int .u32 a1] 24 (0, 0))) := Lib.hid ((hb.block _ (by first | omega | (simp <;> omega))).trans (by repeat (first | with_reducible exact K16_p0.out | with_reducible exact blkal K16_p0.out _ | with_reducible exact blkal (blkal K16_p0.out _) _ | exact K16_p0.out | exact blknew _ _ | exact blknew' _ _ _ (by simp) | with_reducible refine blkal ?_ _ | with_reducible refine blkdrew ?_)))
    have K17_s8 : Hid (w17.heap[w4.heap.size]? = some (.cells #[.int .i64 r00, .int .u32 r01, .int .i64 r02, .slice A4_03 R03.length cap4_03] 34 (0, 0))) := Lib.hid ((hb.block _ (by first | omega | (simp <;> omega))).trans (by repeat (first | with_reducible exact K16_s8.out | with_reducible exact blkal K16_s8.out _ | with_reducible exact blkal (blkal K16_s8.out _) _ | exact K16_s8.out | exact blknew _ _ | exact blknew' _ _ _ (by simp) | with_reducible refine blkal ?_ _ | with_reducible refine blkdrew ?_)))
    have K17_s11 : Hid (w17.heap[w7.heap.size]? = some (.cells #[.int .i64 r00, .int .u32 r01, .int .i64 r02, .slice A7_03 R03.length cap7_03] 34 (0, 0))) := Lib.hid ((hb.block _ (by first | omega | (simp <;> omega))).trans (by repeat (first | with_reducible exact K16_s11.out | with_reducible exact blkal K16_s11.out _ | with_reducible exact blkal (blkal K16_s11.out _) _ | exact K16_s11.out | exact blknew _ _ | exact blknew' _ _ _ (by simp) | with_reducible refine blkal ?_ _ | with_reducible refine blkdrew ?_)))
    have O17_3 := Lib.hid (O16_3.out.below (Nat.le_refl _) (bthen (by repeat (first | with_reducible exact Below.refl _ _ | with_reducible refine bal ?_ _ | with_reducible refine bdrew1 ?_)) hb))
    have O17_4_03 := Lib.hid (O16_4_03.out.below (Nat.le_refl _) (bthen (by repeat (first | with_reducible exact Below.refl _ _ | with_reducible refine bal ?_ _ | with_reducible refine bdrew1 ?_)) hb))
    have O17_5 := Lib.hid (O16_5.out.below (Nat.le_refl _) (bthen (by repeat (first | with_reducible exact Below.refl _ _ | with_reducible refine bal ?_ _ | with_reducible refine bdrew1 ?_)) hb))
    have O17_7_03 := Lib.hid (O16_7_03.out.below (Nat.le_refl _) (bthen (by repeat (first | with_reducible exact Below.refl _ _ | with_reducible refine bal ?_ _ | with_reducible refine bdrew1 ?_)) hb))
    have O17_9 := Lib.hid (O16_9.out.below (Nat.le_refl _) (bthen (by repeat (first | with_reducible exact Below.refl _ _ | with_reducible refine bal ?_ _ | with_reducible refine bdrew1 ?_)) hb))
    have O17_16 := Lib.hid (O16_16.out.below (Nat.le_refl _) (bthen (by repeat (first | with_reducible exact Below.refl _ _ | with_reducible refine bal ?_ _ | with_reducible refine bdrew1 ?_)) hb))
    have B17 : Hid (Below w.heap.size w w17) := Lib.hid (bthen (by repeat (first | with_reducible exact B16.out | with_reducible refine bal ?_ _ | with_reducible refine bdrew1 ?_)) hb)
    have L17_17_03 : Hid (∀ b ∈ F17_03, w16.heap.size + 0 ≤ b ∧ b < w17.heap.size) := Lib.hid (fun b hm => ⟨by have := hO_03.ge b hm; (try simp at this); omega, hO_03.lt b hm⟩)
    have O17_17_03 := Lib.hid hO_03
    clear O16_3 O16_4_03 O16_5 O16_7_03 O16_9 O16_16 K16_p0 K16_s8 K16_s11 hO_03 B16 hb c16_p00 c16_p01 y16_p0 c16_s80 c16_s81 c16_s82 c16_s83 y16_s8 c16_s110 c16_s111 c16_s112 c16_s113 y16_s11
    obtain ⟨c17_p00, c17_p01⟩ := blkc2 K17_p0.out
    have y17_p0 : w.heap.size < w17.heap.size := blklt K17_p0.out
    obtain ⟨c17_s80, c17_s81, c17_s82, c17_s83⟩ := blkc4 K17_s8.out
    have y17_s8 : w4.heap.size < w17.heap.size := blklt K17_s8.out
    obtain ⟨c17_s110, c17_s111, c17_s112, c17_s113⟩ := blkc4 K17_s11.out
    have y17_s11 : w7.heap.size < w17.heap.size := blklt K17_s11.out
    go_wp2_with fail
    refine Calls.mono (eqFlagSum_same _ _ _ _ R03 _ _ (O17_17_03.out.lst.below (by repeat (first | with_reducible exact Below.refl _ _ | with_reducible refine bal ?_ _ | with_reducible refine bdrew1 ?_))) (O17_4_03.out.lst.below (by repeat (first | with_reducible exact Below.refl _ _ | with_reducible refine bal ?_ _ | with_reducible refine bdrew1 ?_))) (by omega)) ?_
    rintro e0 w18 ⟨rfl, hb⟩
    have z18 : w17.heap.size + 1 ≤ w18.heap.size := (by have := hb.size; (try simp at this); omega)
    have K18_p0 : Hid (w18.heap[w.heap.size]? = some (.cells #[.int .i64 a0, .int .u32 a1] 24 (0, 0))) := Lib.hid ((hb.block _ (by first | omega | (simp <;> omega))).trans (by repeat (first | with_reducible exact K17_p0.out | with_reducible exact blkal K17_p0.out _ | with_reducible exact blkal (blkal K17_p0.out _) _ | exact K17_p0.out | exact blknew _ _ | exact blknew' _ _ _ (by simp) | with_reducible refine blkal ?_ _ | with_reducible refine blkdrew ?_)))
    have K18_s8 : Hid (w18.heap[w4.heap.size]? = some (.cells #[.int .i64 r00, .int .u32 r01, .int .i64 r02, .slice A4_03 R03.length cap4_03] 34 (0, 0))) := Lib.hid ((hb.block _ (by first | omega | (simp <;> omega))).trans (by repeat (first | with_reducible exact K17_s8.out | with_reducible exact blkal K17_s8.out _ | with_reducible exact blkal (blkal K17_s8.out _) _ | exact K17_s8.out | exact blknew _ _ | exact blknew' _ _ _ (by simp) | with_reducible refine blkal ?_ _ | with_reducible refine blkdrew ?_)))
    have K18_s11 : Hid (w18.heap[w7.heap.size]? = some (.cells #[.int .i64 r00, .int .u32 r01, .int .i64 r02, .slice A7_03 R03.length cap7_03] 34 (0, 0))) := Lib.hid ((hb.block _ (by first | omega | (simp <;> omega))).trans (by repeat (first | with_reducible exact K17_s11.out | with_reducible exact blkal K17_s11.out _ | with_reducible exact blkal (blkal K17_s11.out _) _ | exact K17_s11.out | exact blknew _ _ | exact blknew' _ _ _ (by simp) | with_reducible refine blkal ?_ _ | with_reducible refine blkdrew ?_)))
    have K18_s16 : Hid (w18.heap[w17.heap.size]? = some (.cells #[.int .i64 r00, .int .u32 r01, .int .i64 r02, .slice A17_03 R03.length cap17_03] 34 (0, 0))) := Lib.hid ((hb.block _ (by first | omega | (simp <;> omega))).trans (by repeat (first | exact blknew _ _ | exact blknew' _ _ _ (by simp) | with_reducible refine blkal ?_ _ | with_reducible refine blkdrew ?_)))
    have O18_3 := Lib.hid (O17_3.out.below (Nat.le_refl _) (bthen (by repeat (first | with_reducible exact Below.refl _ _ | with_reducible refine bal ?_ _ | with_reducible refine bdrew1 ?_)) hb))
    have O18_4_03 := Lib.hid (O17_4_03.out.below (Nat.le_refl _) (bthen (by repeat (first | with_reducible exact Below.refl _ _ | with_reducible refine bal ?_ _ | with_reducible refine bdrew1 ?_)) hb))
    have O18_5 := Lib.hid (O17_5.out.below (Nat.le_refl _) (bthen (by repeat (first | with_reducible exact Below.refl _ _ | with_reducible refine bal ?_ _ | with_reducible refine bdrew1 ?_)) hb))
    have O18_7_03 := Lib.hid (O17_7_03.out.below (Nat.le_refl _) (bthen (by repeat (first | with_reducible exact Below.refl _ _ | with_reducible refine bal ?_ _ | with_reducible refine bdrew1 ?_)) hb))
    have O18_9 := Lib.hid (O17_9.out.below (Nat.le_refl _) (bthen (by repeat (first | with_reducible exact Below.refl _ _ | with_reducible refine bal ?_ _ | with_reducible refine bdrew1 ?_)) hb))
    have O18_16 := Lib.hid (O17_16.out.below (Nat.le_refl _) (bthen (by repeat (first | with_reducible exact Below.refl _ _ | with_reducible refine bal ?_ _ | with_reducible refine bdrew1 ?_)) hb))
    have O18_17_03 := Lib.hid (O17_17_03.out.below (Nat.le_refl _) (bthen (by repeat (first | with_reducible exact Below.refl _ _ | with_reducible refine bal ?_ _ | with_reducible refine bdrew1 ?_)) hb))
    have B18 : Hid (Below w.heap.size w w18) := Lib.hid (bthen (by repeat (first | with_reducible exact B17.out | with_reducible refine bal ?_ _ | with_reducible refine bdrew1 ?_)) hb)
    clear O17_3 O17_4_03 O17_5 O17_7_03 O17_9 O17_16 O17_17_03 K17_p0 K17_s8 K17_s11 B17 hb c17_p00 c17_p01 y17_p0 c17_s80 c17_s81 c17_s82 c17_s83 y17_s8 c17_s110 c17_s111 c17_s112 c17_s113 y17_s11
    obtain ⟨c18_p00, c18_p01⟩ := blkc2 K18_p0.out
    have y18_p0 : w.heap.size < w18.heap.size := blklt K18_p0.out
    obtain ⟨c18_s80, c18_s81, c18_s82, c18_s83⟩ := blkc4 K18_s8.out
    have y18_s8 : w4.heap.size < w18.heap.size := blklt K18_s8.out
    obtain ⟨c18_s110, c18_s111, c18_s112, c18_s113⟩ := blkc4 K18_s11.out
    have y18_s11 : w7.heap.size < w18.heap.size := blklt K18_s11.out
    obtain ⟨c18_s160, c18_s161, c18_s162, c18_s163⟩ := blkc4 K18_s16.out
    have y18_s16 : w17.heap.size < w18.heap.size := blklt K18_s16.out
    go_wp2_with fail
    refine Calls.mono (heldFlagSum_any _ _ _ _ R03.length _ _ (O18_7_03.out.lst.below (by repeat (first | with_reducible exact Below.refl _ _ | with_reducible refine bal ?_ _ | with_reducible refine bdrew1 ?_))) (by omega) (by omega)) ?_
    rintro e0 w19 ⟨rfl, hb⟩
    have z19 : w18.heap.size + 0 ≤ w19.heap.size := (by have := hb.size; (try simp at this); omega)
    have K19_p0 : Hid (w19.heap[w.heap.size]? = some (.cells #[.int .i64 a0, .int .u32 a1] 24 (0, 0))) := Lib.hid ((hb.block _ (by first | omega | (simp <;> omega))).trans (by repeat (first | with_reducible exact K18_p0.out | with_reducible exact blkal K18_p0.out _ | with_reducible exact blkal (blkal K18_p0.out _) _ | exact K18_p0.out | exact blknew _ _ | exact blknew' _ _ _ (by simp) | with_reducible refine blkal ?_ _ | with_reducible refine blkdrew ?_)))
    have K19_s8 : Hid (w19.heap[w4.heap.size]? = some (.cells #[.int .i64 r00, .int .u32 r01, .int .i64 r02, .slice A4_03 R03.length cap4_03] 34 (0, 0))) := Lib.hid ((hb.block _ (by first | omega | (simp <;> omega))).trans (by repeat (first | with_reducible exact K18_s8.out | with_reducible exact blkal K18_s8.out _ | with_reducible exact blkal (blkal K18_s8.out _) _ | exact K18_s8.out | exact blknew _ _ | exact blknew' _ _ _ (by simp) | with_reducible refine blkal ?_ _ | with_reducible refine blkdrew ?_)))
    have K19_s11 : Hid (w19.heap[w7.heap.size]? = some (.cells #[.int .i64 r00, .int .u32 r01, .int .i64 r02, .slice A7_03 R03.length cap7_03] 34 (0, 0))) := Lib.hid ((hb.block _ (by first | omega | (simp <;> omega))).trans (by repeat (first | with_reducible exact K18_s11.out | with_reducible exact blkal K18_s11.out _ | with_reducible exact blkal (blkal K18_s11.out _) _ | exact K18_s11.out | exact blknew _ _ | exact blknew' _ _ _ (by simp) | with_reducible refine blkal ?_ _ | with_reducible refine blkdrew ?_)))
    have K19_s16 : Hid (w19.heap[w17.heap.size]? = some (.cells #[.int .i64 r00, .int .u32 r01, .int .i64 r02, .slice A17_03 R03.length cap17_03] 34 (0, 0))) := Lib.hid ((hb.block _ (by first | omega | (simp <;> omega))).trans (by repeat (first | with_reducible exact K18_s16.out | with_reducible exact blkal K18_s16.out _ | with_reducible exact blkal (blkal K18_s16.out _) _ | exact K18_s16.out | exact blknew _ _ | exact blknew' _ _ _ (by simp) | with_reducible refine blkal ?_ _ | with_reducible refine blkdrew ?_)))
    have O19_3 := Lib.hid (O18_3.out.below (Nat.le_refl _) (bthen (by repeat (first | with_reducible exact Below.refl _ _ | with_reducible refine bal ?_ _ | with_reducible refine bdrew1 ?_)) hb))
    have O19_4_03 := Lib.hid (O18_4_03.out.below (Nat.le_refl _) (bthen (by repeat (first | with_reducible exact Below.refl _ _ | with_reducible refine bal ?_ _ | with_reducible refine bdrew1 ?_)) hb))
    have O19_5 := Lib.hid (O18_5.out.below (Nat.le_refl _) (bthen (by repeat (first | with_reducible exact Below.refl _ _ | with_reducible refine bal ?_ _ | with_reducible refine bdrew1 ?_)) hb))
    have O19_7_03 := Lib.hid (O18_7_03.out.below (Nat.le_refl _) (bthen (by repeat (first | with_reducible exact Below.refl _ _ | with_reducible refine bal ?_ _ | with_reducible refine bdrew1 ?_)) hb))
    have O19_9 := Lib.hid (O18_9.out.below (Nat.le_refl _) (bthen (by repeat (first | with_reducible exact Below.refl _ _ | with_reducible refine bal ?_ _ | with_reducible refine bdrew1 ?_)) hb))
    have O19_16 := Lib.hid (O18_16.out.below (Nat.le_refl _) (bthen (by repeat (first | with_reducible exact Below.refl _ _ | with_reducible refine bal ?_ _ | with_reducible refine bdrew1 ?_)) hb))
    have O19_17_03 := Lib.hid (O18_17_03.out.below (Nat.le_refl _) (bthen (by repeat (first | with_reducible exact Below.refl _ _ | with_reducible refine bal ?_ _ | with_reducible refine bdrew1 ?_)) hb))
    have B19 : Hid (Below w.heap.size w w19) := Lib.hid (bthen (by repeat (first | with_reducible exact B18.out | with_reducible refine bal ?_ _ | with_reducible refine bdrew1 ?_)) hb)
    clear O18_3 O18_4_03 O18_5 O18_7_03 O18_9 O18_16 O18_17_03 K18_p0 K18_s8 K18_s11 K18_s16 B18 hb c18_p00 c18_p01 y18_p0 c18_s80 c18_s81 c18_s82 c18_s83 y18_s8 c18_s110 c18_s111 c18_s112 c18_s113 y18_s11 c18_s160 c18_s161 c18_s162 c18_s163 y18_s16
    obtain ⟨c19_p00, c19_p01⟩ := blkc2 K19_p0.out
    have y19_p0 : w.heap.size < w19.heap.size := blklt K19_p0.out
    obtain ⟨c19_s80, c19_s81, c19_s82, c19_s83⟩ := blkc4 K19_s8.out
    have y19_s8 : w4.heap.size < w19.heap.size := blklt K19_s8.out
    obtain ⟨c19_s110, c19_s111, c19_s112, c19_s113⟩ := blkc4 K19_s11.out
    have y19_s11 : w7.heap.size < w19.heap.size := blklt K19_s11.out
    obtain ⟨c19_s160, c19_s161, c19_s162, c19_s163⟩ := blkc4 K19_s16.out
    have y19_s16 : w17.heap.size < w19.heap.size := blklt K19_s16.out
    go_wp2_with fail
    exact bodyPost_ret (v := .bool true) (by simp [results, Try.results4, go_sem]) rfl ⟨rfl, (by first | exact B19.out | exact bal B19.out _ | exact bal (bal B19.out _) _)⟩
end Go.Proofs.Ytpcjinbbgnmchaa

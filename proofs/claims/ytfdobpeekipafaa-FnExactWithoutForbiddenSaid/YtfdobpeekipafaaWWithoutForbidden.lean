/- The walk of FnExactWithoutForbidden, with what both sides return as hypotheses. -/
import Derived.Test.YtfdobpeekipafaaSl
import Derived.Test.YtfdobpeekipafaaMSum
import Derived.Test.YtfdobpeekipafaaTSum
namespace Go.Proofs.Ytfdobpeekipafaa
open Go.ChangeShapes Go.WideShapes Go.ChangeAt Go.RowKit
set_option linter.unusedVariables false
set_option linter.unusedSimpArgs false
attribute [local irreducible] Calls
set_option maxHeartbeats 4000000 in
set_option maxRecDepth 100000 in
theorem walkWithoutForbidden (a0 : Int) (a1 : Int) (a2 : Int) (ax3 : List ((Int × (Int × Int)) × (Int × Int))) (av3 : Value) (bx0 : List (Int × Int)) (bv0 : Value) (r00 : Int) (r01 : Int) (r02 : Int) (R03 : List ((Int × (Int × Int)) × (Int × Int))) (r10 : Int) (mR03 : R03.length ≤ 100000) (HI0 : ∀ (W : World) (u0 u1 : Value), Lst shTerm W ax3 u0 → Lst shGr W bx0 u1 → ax3.length ≤ 1048576 → bx0.length ≤ 1048576 → Calls Try.prog 33 #[.agg #[.int .i64 a0, .int .u32 a1, .int .i64 a2, u0], u1] W fun e W' => ∃ A_03 cap_03 F_03, e = .returned (.tuple #[.agg #[.int .i64 r00, .int .u32 r01, .int .i64 r02, .slice A_03 R03.length cap_03], .int .i64 r10]) ∧ Own shTerm W.heap.size W' R03 (.slice A_03 R03.length cap_03) F_03 ∧ Below W.heap.size W W') (HS0 : ∀ (W : World) (u0 u1 : Value), Lst shTerm W ax3 u0 → Lst shGr W bx0 u1 → ax3.length ≤ 1048576 → bx0.length ≤ 1048576 → Calls Try.prog 30 #[.agg #[.int .i64 a0, .int .u32 a1, .int .i64 a2, u0], u1] W fun e W' => ∃ A_03 cap_03 F_03, e = .returned (.tuple #[.agg #[.int .i64 r00, .int .u32 r01, .int .i64 r02, .slice A_03 R03.length cap_03], .int .i64 r10]) ∧ Own shTerm W.heap.size W' R03 (.slice A_03 R03.length cap_03) F_03 ∧ Below W.heap.size W W') (w : World) (ah3 : Lst shTerm w ax3 av3) (bh0 : Lst shGr w bx0 bv0) :
    Calls Try.prog 8 #[.agg #[.int .i64 a0, .int .u32 a1, .int .i64 a2, av3], bv0] w fun e0 w' => e0 = .returned (.bool true) ∧ Below w.heap.size w w' := by
  obtain ⟨A_av3, cap_av3, rfl, fax3⟩ := formTerm ah3
  obtain ⟨A_bv0, cap_bv0, rfl, fbx0⟩ := formGraph bh0
  have HI := Lib.hid HI0
  have HS := Lib.hid HS0
  clear HI0 HS0
  have qr00 : (r00 != r00) = false := by simp
  have qr01 : (r01 != r01) = false := by simp
  have qr02 : (r02 != r02) = false := by simp
  have qr10 : (r10 != r10) = false := by simp
  have d0 := szI_bd (left := 1048576) (n := ax3.length) (by omega) (by omega) (by omega)
  by_cases g0 : szI (1048576) ax3.length < 0
  · go_enter Try.func8, Try.ntmps8
    go_wp2_with fail
    refine Calls.mono (szFlagSum_any _ _ _ _ ax3 _ _ (ah3.below (by (try with_reducible refine bsz ?_); repeat (first | with_reducible exact Below.refl _ _ | ((with_reducible refine bpre ?_); (try simp only [Array.append_assoc]); repeat (first | with_reducible exact Pre.refl _ | with_reducible exact Pre.base _ _ | with_reducible refine Pre.cons _ ?_)) | with_reducible assumption | ((with_reducible refine bsetr ?_); rfl) | with_reducible refine Below.setCell ?_ (by simp <;> omega) _ | with_reducible refine bpl ?_ _ _ | with_reducible refine bal ?_ _ | with_reducible refine bdrew1 ?_ | with_reducible refine bdrew ?_ _))) (by omega) (by omega)) ?_
    rintro e0 w1 ⟨rfl, hb⟩
    have z1 : w.heap.size + 1 ≤ w1.heap.size := (by have := hb.size; (try simp at this); omega)
    have K1_p0 : Hid (w1.heap[w.heap.size]? = some (.cells #[.int .i64 a0, .int .u32 a1, .int .i64 a2, .slice A_av3 ax3.length cap_av3] 58 (0, 0))) := Lib.hid ((hb.block _ (by first | omega | (simp <;> omega))).trans (by repeat (first | exact blknew _ _ | exact blknew' _ _ _ (by simp) | with_reducible refine blkal ?_ _ | with_reducible refine blkdrew ?_)))
    have B1 : Hid (Below w.heap.size w w1) := Lib.hid (bthen (by (try with_reducible refine bsz ?_); repeat (first | with_reducible exact Below.refl _ _ | ((with_reducible refine bpre ?_); (try simp only [Array.append_assoc]); repeat (first | with_reducible exact Pre.refl _ | with_reducible exact Pre.base _ _ | with_reducible refine Pre.cons _ ?_)) | with_reducible assumption | ((with_reducible refine bsetr ?_); rfl) | with_reducible refine Below.setCell ?_ (by simp <;> omega) _ | with_reducible refine bpl ?_ _ _ | with_reducible refine bal ?_ _ | with_reducible refine bdrew1 ?_ | with_reducible refine bdrew ?_ _)) hb)
    clear hb
    obtain ⟨c1_p00, c1_p01, c1_p02, c1_p03⟩ := blkc4 K1_p0.out
    have y1_p0 : w.heap.size < w1.heap.size := blklt K1_p0.out
    go_wp2_with fail
    exact bodyPost_ret (v := .bool true) (by simp [results, Try.results8, go_sem]) rfl ⟨rfl, (by first | exact B1.out | exact bal B1.out _ | exact bal (bal B1.out _) _)⟩
  · have lax3 : ax3.length ≤ 1048576 := (by have := szI_pos g0; omega)
    have d1 := szI_bd (left := szI (1048576) ax3.length) (n := bx0.length) (by omega) (by omega) (by omega)
    by_cases g1 : szI (szI (1048576) ax3.length) bx0.length < 0
    · go_enter Try.func8, Try.ntmps8
      go_wp2_with fail
      refine Calls.mono (szFlagSum_any _ _ _ _ ax3 _ _ (ah3.below (by (try with_reducible refine bsz ?_); repeat (first | with_reducible exact Below.refl _ _ | ((with_reducible refine bpre ?_); (try simp only [Array.append_assoc]); repeat (first | with_reducible exact Pre.refl _ | with_reducible exact Pre.base _ _ | with_reducible refine Pre.cons _ ?_)) | with_reducible assumption | ((with_reducible refine bsetr ?_); rfl) | with_reducible refine Below.setCell ?_ (by simp <;> omega) _ | with_reducible refine bpl ?_ _ _ | with_reducible refine bal ?_ _ | with_reducible refine bdrew1 ?_ | with_reducible refine bdrew ?_ _))) (by omega) (by omega)) ?_
      rintro e0 w1 ⟨rfl, hb⟩
      have z1 : w.heap.size + 1 ≤ w1.heap.size := (by have := hb.size; (try simp at this); omega)
      have K1_p0 : Hid (w1.heap[w.heap.size]? = some (.cells #[.int .i64 a0, .int .u32 a1, .int .i64 a2, .slice A_av3 ax3.length cap_av3] 58 (0, 0))) := Lib.hid ((hb.block _ (by first | omega | (simp <;> omega))).trans (by repeat (first | exact blknew _ _ | exact blknew' _ _ _ (by simp) | with_reducible refine blkal ?_ _ | with_reducible refine blkdrew ?_)))
      have B1 : Hid (Below w.heap.size w w1) := Lib.hid (bthen (by (try with_reducible refine bsz ?_); repeat (first | with_reducible exact Below.refl _ _ | ((with_reducible refine bpre ?_); (try simp only [Array.append_assoc]); repeat (first | with_reducible exact Pre.refl _ | with_reducible exact Pre.base _ _ | with_reducible refine Pre.cons _ ?_)) | with_reducible assumption | ((with_reducible refine bsetr ?_); rfl) | with_reducible refine Below.setCell ?_ (by simp <;> omega) _ | with_reducible refine bpl ?_ _ _ | with_reducible refine bal ?_ _ | with_reducible refine bdrew1 ?_ | with_reducible refine bdrew ?_ _)) hb)
      clear hb
      obtain ⟨c1_p00, c1_p01, c1_p02, c1_p03⟩ := blkc4 K1_p0.out
      have y1_p0 : w.heap.size < w1.heap.size := blklt K1_p0.out
      go_wp2_with fail
      refine Calls.mono (szGraphS_any _ _ _ _ _ (by omega) (by omega) fbx0.1 fbx0.2) ?_
      rintro e0 w2 ⟨rfl, rfl⟩
      go_wp2_with fail
      exact bodyPost_ret (v := .bool true) (by simp [results, Try.results8, go_sem]) rfl ⟨rfl, (by first | exact B1.out | exact bal B1.out _ | exact bal (bal B1.out _) _)⟩
    · have lbx0 : bx0.length ≤ 1048576 := (by have := szI_pos g1; omega)
      go_enter Try.func8, Try.ntmps8
      go_wp2_with fail
      refine Calls.mono (szFlagSum_any _ _ _ _ ax3 _ _ (ah3.below (by (try with_reducible refine bsz ?_); repeat (first | with_reducible exact Below.refl _ _ | ((with_reducible refine bpre ?_); (try simp only [Array.append_assoc]); repeat (first | with_reducible exact Pre.refl _ | with_reducible exact Pre.base _ _ | with_reducible refine Pre.cons _ ?_)) | with_reducible assumption | ((with_reducible refine bsetr ?_); rfl) | with_reducible refine Below.setCell ?_ (by simp <;> omega) _ | with_reducible refine bpl ?_ _ _ | with_reducible refine bal ?_ _ | with_reducible refine bdrew1 ?_ | with_reducible refine bdrew ?_ _))) (by omega) (by omega)) ?_
      rintro e0 w1 ⟨rfl, hb⟩
      have z1 : w.heap.size + 1 ≤ w1.heap.size := (by have := hb.size; (try simp at this); omega)
      have K1_p0 : Hid (w1.heap[w.heap.size]? = some (.cells #[.int .i64 a0, .int .u32 a1, .int .i64 a2, .slice A_av3 ax3.length cap_av3] 58 (0, 0))) := Lib.hid ((hb.block _ (by first | omega | (simp <;> omega))).trans (by repeat (first | exact blknew _ _ | exact blknew' _ _ _ (by simp) | with_reducible refine blkal ?_ _ | with_reducible refine blkdrew ?_)))
      have B1 : Hid (Below w.heap.size w w1) := Lib.hid (bthen (by (try with_reducible refine bsz ?_); repeat (first | with_reducible exact Below.refl _ _ | ((with_reducible refine bpre ?_); (try simp only [Array.append_assoc]); repeat (first | with_reducible exact Pre.refl _ | with_reducible exact Pre.base _ _ | with_reducible refine Pre.cons _ ?_)) | with_reducible assumption | ((with_reducible refine bsetr ?_); rfl) | with_reducible refine Below.setCell ?_ (by simp <;> omega) _ | with_reducible refine bpl ?_ _ _ | with_reducible refine bal ?_ _ | with_reducible refine bdrew1 ?_ | with_reducible refine bdrew ?_ _)) hb)
      clear hb
      obtain ⟨c1_p00, c1_p01, c1_p02, c1_p03⟩ := blkc4 K1_p0.out
      have y1_p0 : w.heap.size < w1.heap.size := blklt K1_p0.out
      go_wp2_with fail
      refine Calls.mono (szGraphS_any _ _ _ _ _ (by omega) (by omega) fbx0.1 fbx0.2) ?_
      rintro e0 w2 ⟨rfl, rfl⟩
      go_wp2_with fail
      refine Calls.mono (toFlagSum_any _ _ _ _ ax3 _ (ah3.below (by repeat (first | with_reducible exact B1.out | with_reducible refine bal ?_ _ | with_reducible refine bdrew1 ?_))) (by omega)) ?_
      rintro e0 w3 ⟨A3, cap3, F3, rfl, hO, hb⟩
      have z3 : w1.heap.size + 0 ≤ w3.heap.size := (by have := hb.size; (try simp at this); omega)
      have K3_p0 : Hid (w3.heap[w.heap.size]? = some (.cells #[.int .i64 a0, .int .u32 a1, .int .i64 a2, .slice A_av3 ax3.length cap_av3] 58 (0, 0))) := Lib.hid ((hb.block _ (by first | omega | (simp <;> omega))).trans (by repeat (first | exact K1_p0.out | exact blknew _ _ | exact blknew' _ _ _ (by simp) | with_reducible refine blkal ?_ _ | with_reducible refine blkdrew ?_)))
      have B3 : Hid (Below w.heap.size w w3) := Lib.hid (bthen (by repeat (first | with_reducible exact B1.out | with_reducible refine bal ?_ _ | with_reducible refine bdrew1 ?_)) hb)
      have L3_3 : Hid (∀ b ∈ F3, w1.heap.size + 0 ≤ b ∧ b < w3.heap.size) := Lib.hid (fun b hm => ⟨by have := hO.ge b hm; (try simp at this); omega, hO.lt b hm⟩)
      have O3_3 := Lib.hid hO
      clear K1_p0 hO B1 hb c1_p00 c1_p01 c1_p02 c1_p03 y1_p0
      obtain ⟨c3_p00, c3_p01, c3_p02, c3_p03⟩ := blkc4 K3_p0.out
      have y3_p0 : w.heap.size < w3.heap.size := blklt K3_p0.out
      go_wp2_with fail
      refine Calls.mono (toGraphS_any _ bx0 _ (bh0.below (by repeat (first | with_reducible exact B3.out | with_reducible refine bal ?_ _ | with_reducible refine bdrew1 ?_))) (by omega)) ?_
      rintro e0 w4 ⟨A4, cap4, F4, rfl, hO, hb⟩
      have z4 : w3.heap.size + 0 ≤ w4.heap.size := (by have := hb.size; (try simp at this); omega)
      have K4_p0 : Hid (w4.heap[w.heap.size]? = some (.cells #[.int .i64 a0, .int .u32 a1, .int .i64 a2, .slice A_av3 ax3.length cap_av3] 58 (0, 0))) := Lib.hid ((hb.block _ (by first | omega | (simp <;> omega))).trans (by repeat (first | exact K3_p0.out | exact blknew _ _ | exact blknew' _ _ _ (by simp) | with_reducible refine blkal ?_ _ | with_reducible refine blkdrew ?_)))
      have O4_3 := Lib.hid (O3_3.out.below (Nat.le_refl _) (bthen (by repeat (first | with_reducible exact Below.refl _ _ | with_reducible refine bal ?_ _ | with_reducible refine bdrew1 ?_)) hb))
      have B4 : Hid (Below w.heap.size w w4) := Lib.hid (bthen (by repeat (first | with_reducible exact B3.out | with_reducible refine bal ?_ _ | with_reducible refine bdrew1 ?_)) hb)
      have L4_4 : Hid (∀ b ∈ F4, w3.heap.size + 0 ≤ b ∧ b < w4.heap.size) := Lib.hid (fun b hm => ⟨by have := hO.ge b hm; (try simp at this); omega, hO.lt b hm⟩)
      have O4_4 := Lib.hid hO
      clear O3_3 K3_p0 hO B3 hb c3_p00 c3_p01 c3_p02 c3_p03 y3_p0
      obtain ⟨c4_p00, c4_p01, c4_p02, c4_p03⟩ := blkc4 K4_p0.out
      have y4_p0 : w.heap.size < w4.heap.size := blklt K4_p0.out
      go_wp2_with fail
      refine Calls.mono (HS.out _ _ _ (O4_3.out.lst.below (by repeat (first | with_reducible exact Below.refl _ _ | with_reducible refine bal ?_ _ | with_reducible refine bdrew1 ?_))) (O4_4.out.lst.below (by repeat (first | with_reducible exact Below.refl _ _ | with_reducible refine bal ?_ _ | with_reducible refine bdrew1 ?_))) (by omega) (by omega)) ?_
      rintro e0 w5 ⟨A5_03, cap5_03, F5_03, rfl, hO_03, hb⟩
      have z5 : w4.heap.size + 0 ≤ w5.heap.size := (by have := hb.size; (try simp at this); omega)
      have K5_p0 : Hid (w5.heap[w.heap.size]? = some (.cells #[.int .i64 a0, .int .u32 a1, .int .i64 a2, .slice A_av3 ax3.length cap_av3] 58 (0, 0))) := Lib.hid ((hb.block _ (by first | omega | (simp <;> omega))).trans (by repeat (first | exact K4_p0.out | exact blknew _ _ | exact blknew' _ _ _ (by simp) | with_reducible refine blkal ?_ _ | with_reducible refine blkdrew ?_)))
      have O5_3 := Lib.hid (O4_3.out.below (Nat.le_refl _) (bthen (by repeat (first | with_reducible exact Below.refl _ _ | with_reducible refine bal ?_ _ | with_reducible refine bdrew1 ?_)) hb))
      have O5_4 := Lib.hid (O4_4.out.below (Nat.le_refl _) (bthen (by repeat (first | with_reducible exact Below.refl _ _ | with_reducible refine bal ?_ _ | with_reducible refine bdrew1 ?_)) hb))
      have B5 : Hid (Below w.heap.size w w5) := Lib.hid (bthen (by repeat (first | with_reducible exact B4.out | with_reducible refine bal ?_ _ | with_reducible refine bdrew1 ?_)) hb)
      have L5_5_03 : Hid (∀ b ∈ F5_03, w4.heap.size + 0 ≤ b ∧ b < w5.heap.size) := Lib.hid (fun b hm => ⟨by have := hO_03.ge b hm; (try simp at this); omega, hO_03.lt b hm⟩)
      have O5_5_03 := Lib.hid hO_03
      clear O4_3 O4_4 K4_p0 hO_03 B4 hb c4_p00 c4_p01 c4_p02 c4_p03 y4_p0
      obtain ⟨c5_p00, c5_p01, c5_p02, c5_p03⟩ := blkc4 K5_p0.out
      have y5_p0 : w.heap.size < w5.heap.size := blklt K5_p0.out
      go_wp2_with fail
      refine Calls.mono (toFlagSum_any _ _ _ _ ax3 _ (ah3.below (by repeat (first | with_reducible exact B5.out | with_reducible refine bal ?_ _ | with_reducible refine bdrew1 ?_))) (by omega)) ?_
      rintro e0 w6 ⟨A6, cap6, F6, rfl, hO, hb⟩
      have z6 : w5.heap.size + 1 ≤ w6.heap.size := (by have := hb.size; (try simp at this); omega)
      have K6_p0 : Hid (w6.heap[w.heap.size]? = some (.cells #[.int .i64 a0, .int .u32 a1, .int .i64 a2, .slice A_av3 ax3.length cap_av3] 58 (0, 0))) := Lib.hid ((hb.block _ (by first | omega | (simp <;> omega))).trans (by repeat (first | exact K5_p0.out | exact blknew _ _ | exact blknew' _ _ _ (by simp) | with_reducible refine blkal ?_ _ | with_reducible refine blkdrew ?_)))
      have K6_s6 : Hid (w6.heap[w5.heap.size]? = some (.cells #[.int .i64 r00, .int .u32 r01, .int .i64 r02, .slice A5_03 R03.length cap5_03] 28 (0, 0))) := Lib.hid ((hb.block _ (by first | omega | (simp <;> omega))).trans (by repeat (first | exact blknew _ _ | exact blknew' _ _ _ (by simp) | with_reducible refine blkal ?_ _ | with_reducible refine blkdrew ?_)))
      have O6_3 := Lib.hid (O5_3.out.below (Nat.le_refl _) (bthen (by repeat (first | with_reducible exact Below.refl _ _ | with_reducible refine bal ?_ _ | with_reducible refine bdrew1 ?_)) hb))
      have O6_4 := Lib.hid (O5_4.out.below (Nat.le_refl _) (bthen (by repeat (first | with_reducible exact Below.refl _ _ | with_reducible refine bal ?_ _ | with_reducible refine bdrew1 ?_)) hb))
      have O6_5_03 := Lib.hid (O5_5_03.out.below (Nat.le_refl _) (bthen (by repeat (first | with_reducible exact Below.refl _ _ | with_reducible refine bal ?_ _ | with_reducible refine bdrew1 ?_)) hb))
      have B6 : Hid (Below w.heap.size w w6) := Lib.hid (bthen (by repeat (first | with_reducible exact B5.out | with_reducible refine bal ?_ _ | with_reducible refine bdrew1 ?_)) hb)
      have L6_6 : Hid (∀ b ∈ F6, w5.heap.size + 1 ≤ b ∧ b < w6.heap.size) := Lib.hid (fun b hm => ⟨by have := hO.ge b hm; (try simp at this); omega, hO.lt b hm⟩)
      have O6_6 := Lib.hid hO
      clear O5_3 O5_4 O5_5_03 K5_p0 hO B5 hb c5_p00 c5_p01 c5_p02 c5_p03 y5_p0
      obtain ⟨c6_p00, c6_p01, c6_p02, c6_p03⟩ := blkc4 K6_p0.out
      have y6_p0 : w.heap.size < w6.heap.size := blklt K6_p0.out
      obtain ⟨c6_s60, c6_s61, c6_s62, c6_s63⟩ := blkc4 K6_s6.out
      have y6_s6 : w5.heap.size < w6.heap.size := blklt K6_s6.out
      go_wp2_with fail
      refine Calls.mono (toGraphS_any _ bx0 _ (bh0.below (by repeat (first | with_reducible exact B6.out | with_reducible refine bal ?_ _ | with_reducible refine bdrew1 ?_))) (by omega)) ?_
      rintro e0 w7 ⟨A7, cap7, F7, rfl, hO, hb⟩
      have z7 : w6.heap.size + 1 ≤ w7.heap.size := (by have := hb.size; (try simp at this); omega)
      have K7_p0 : Hid (w7.heap[w.heap.size]? = some (.cells #[.int .i64 a0, .int .u32 a1, .int .i64 a2, .slice A_av3 ax3.length cap_av3] 58 (0, 0))) := Lib.hid ((hb.block _ (by first | omega | (simp <;> omega))).trans (by repeat (first | exact K6_p0.out | exact blknew _ _ | exact blknew' _ _ _ (by simp) | with_reducible refine blkal ?_ _ | with_reducible refine blkdrew ?_)))
      have K7_s6 : Hid (w7.heap[w5.heap.size]? = some (.cells #[.int .i64 r00, .int .u32 r01, .int .i64 r02, .slice A5_03 R03.length cap5_03] 28 (0, 0))) := Lib.hid ((hb.block _ (by first | omega | (simp <;> omega))).trans (by repeat (first | exact K6_s6.out | exact blknew _ _ | exact blknew' _ _ _ (by simp) | with_reducible refine blkal ?_ _ | with_reducible refine blkdrew ?_)))
      have K7_s8 : Hid (w7.heap[w6.heap.size]? = some (.cells #[.int .i64 a0, .int .u32 a1, .int .i64 a2, .slice A6 ax3.length cap6] 28 (0, 0))) := Lib.hid ((hb.block _ (by first | omega | (simp <;> omega))).trans (by repeat (first | exact blknew _ _ | exact blknew' _ _ _ (by simp) | with_reducible refine blkal ?_ _ | with_reducible refine blkdrew ?_)))
      have O7_3 := Lib.hid (O6_3.out.below (Nat.le_refl _) (bthen (by repeat (first | with_reducible exact Below.refl _ _ | with_reducible refine bal ?_ _ | with_reducible refine bdrew1 ?_)) hb))
      have O7_4 := Lib.hid (O6_4.out.below (Nat.le_refl _) (bthen (by repeat (first | with_reducible exact Below.refl _ _ | with_reducible refine bal ?_ _ | with_reducible refine bdrew1 ?_)) hb))
      have O7_5_03 := Lib.hid (O6_5_03.out.below (Nat.le_refl _) (bthen (by repeat (first | with_reducible exact Below.refl _ _ | with_reducible refine bal ?_ _ | with_reducible refine bdrew1 ?_)) hb))
      have O7_6 := Lib.hid (O6_6.out.below (Nat.le_refl _) (bthen (by repeat (first | with_reducible exact Below.refl _ _ | with_reducible refine bal ?_ _ | with_reducible refine bdrew1 ?_)) hb))
      have B7 : Hid (Below w.heap.size w w7) := Lib.hid (bthen (by repeat (first | with_reducible exact B6.out | with_reducible refine bal ?_ _ | with_reducible refine bdrew1 ?_)) hb)
      have L7_7 : Hid (∀ b ∈ F7, w6.heap.size + 1 ≤ b ∧ b < w7.heap.size) := Lib.hid (fun b hm => ⟨by have := hO.ge b hm; (try simp at this); omega, hO.lt b hm⟩)
      have O7_7 := Lib.hid hO
      clear O6_3 O6_4 O6_5_03 O6_6 K6_p0 K6_s6 hO B6 hb c6_p00 c6_p01 c6_p02 c6_p03 y6_p0 c6_s60 c6_s61 c6_s62 c6_s63 y6_s6
      obtain ⟨c7_p00, c7_p01, c7_p02, c7_p03⟩ := blkc4 K7_p0.out
      have y7_p0 : w.heap.size < w7.heap.size := blklt K7_p0.out
      obtain ⟨c7_s60, c7_s61, c7_s62, c7_s63⟩ := blkc4 K7_s6.out
      have y7_s6 : w5.heap.size < w7.heap.size := blklt K7_s6.out
      obtain ⟨c7_s80, c7_s81, c7_s82, c7_s83⟩ := blkc4 K7_s8.out
      have y7_s8 : w6.heap.size < w7.heap.size := blklt K7_s8.out
      go_wp2_with fail
      refine Calls.mono (HI.out _ _ _ (O7_6.out.lst.below (by repeat (first | with_reducible exact Below.refl _ _ | with_reducible refine bal ?_ _ | with_reducible refine bdrew1 ?_))) (O7_7.out.lst.below (by repeat (first | with_reducible exact Below.refl _ _ | with_reducible refine bal ?_ _ | with_reducible refine bdrew1 ?_))) (by omega) (by omega)) ?_
      rintro e0 w8 ⟨A8_03, cap8_03, F8_03, rfl, hO_03, hb⟩
      have z8 : w7.heap.size + 0 ≤ w8.heap.size := (by have := hb.size; (try simp at this); omega)
      have K8_p0 : Hid (w8.heap[w.heap.size]? = some (.cells #[.int .i64 a0, .int .u32 a1, .int .i64 a2, .slice A_av3 ax3.length cap_av3] 58 (0, 0))) := Lib.hid ((hb.block _ (by first | omega | (simp <;> omega))).trans (by repeat (first | exact K7_p0.out | exact blknew _ _ | exact blknew' _ _ _ (by simp) | with_reducible refine blkal ?_ _ | with_reducible refine blkdrew ?_)))
      have K8_s6 : Hid (w8.heap[w5.heap.size]? = some (.cells #[.int .i64 r00, .int .u32 r01, .int .i64 r02, .slice A5_03 R03.length cap5_03] 28 (0, 0))) := Lib.hid ((hb.block _ (by first | omega | (simp <;> omega))).trans (by repeat (first | exact K7_s6.out | exact blknew _ _ | exact blknew' _ _ _ (by simp) | with_reducible refine blkal ?_ _ | with_reducible refine blkdrew ?_)))
      have K8_s8 : Hid (w8.heap[w6.heap.size]? = some (.cells #[.int .i64 a0, .int .u32 a1, .int .i64 a2, .slice A6 ax3.length cap6] 28 (0, 0))) := Lib.hid ((hb.block _ (by first | omega | (simp <;> omega))).trans (by repeat (first | exact K7_s8.out | exact blknew _ _ | exact blknew' _ _ _ (by simp) | with_reducible refine blkal ?_ _ | with_reducible refine blkdrew ?_)))
      have O8_3 := Lib.hid (O7_3.out.below (Nat.le_refl _) (bthen (by repeat (first | with_reducible exact Below.refl _ _ | with_reducible refine bal ?_ _ | with_reducible refine bdrew1 ?_)) hb))
      have O8_4 := Lib.hid (O7_4.out.below (Nat.le_refl _) (bthen (by repeat (first | with_reducible exact Below.refl _ _ | with_reducible refine bal ?_ _ | with_reducible refine bdrew1 ?_)) hb))
      have O8_5_03 := Lib.hid (O7_5_03.out.below (Nat.le_refl _) (bthen (by repeat (first | with_reducible exact Below.refl _ _ | with_reducible refine bal ?_ _ | with_reducible refine bdrew1 ?_)) hb))
      have O8_6 := Lib.hid (O7_6.out.below (Nat.le_refl _) (bthen (by repeat (first | with_reducible exact Below.refl _ _ | with_reducible refine bal ?_ _ | with_reducible refine bdrew1 ?_)) hb))
      have O8_7 := Lib.hid (O7_7.out.below (Nat.le_refl _) (bthen (by repeat (first | with_reducible exact Below.refl _ _ | with_reducible refine bal ?_ _ | with_reducible refine bdrew1 ?_)) hb))
      have B8 : Hid (Below w.heap.size w w8) := Lib.hid (bthen (by repeat (first | with_reducible exact B7.out | with_reducible refine bal ?_ _ | with_reducible refine bdrew1 ?_)) hb)
      have L8_8_03 : Hid (∀ b ∈ F8_03, w7.heap.size + 0 ≤ b ∧ b < w8.heap.size) := Lib.hid (fun b hm => ⟨by have := hO_03.ge b hm; (try simp at this); omega, hO_03.lt b hm⟩)
      have O8_8_03 := Lib.hid hO_03
      clear O7_3 O7_4 O7_5_03 O7_6 O7_7 K7_p0 K7_s6 K7_s8 hO_03 B7 hb c7_p00 c7_p01 c7_p02 c7_p03 y7_p0 c7_s60 c7_s61 c7_s62 c7_s63 y7_s6 c7_s80 c7_s81 c7_s82 c7_s83 y7_s8
      obtain ⟨c8_p00, c8_p01, c8_p02, c8_p03⟩ := blkc4 K8_p0.out
      have y8_p0 : w.heap.size < w8.heap.size := blklt K8_p0.out
      obtain ⟨c8_s60, c8_s61, c8_s62, c8_s63⟩ := blkc4 K8_s6.out
      have y8_s6 : w5.heap.size < w8.heap.size := blklt K8_s6.out
      obtain ⟨c8_s80, c8_s81, c8_s82, c8_s83⟩ := blkc4 K8_s8.out
      have y8_s8 : w6.heap.size < w8.heap.size := blklt K8_s8.out
      go_wp2_with fail
      refine Calls.mono (eqFlagSum_same _ _ _ _ R03 _ _ (O8_8_03.out.lst.below (by repeat (first | with_reducible exact Below.refl _ _ | with_reducible refine bal ?_ _ | with_reducible refine bdrew1 ?_))) (O8_5_03.out.lst.below (by repeat (first | with_reducible exact Below.refl _ _ | with_reducible refine bal ?_ _ | with_reducible refine bdrew1 ?_))) (by omega)) ?_
      rintro e0 w9 ⟨rfl, hb⟩
      have z9 : w8.heap.size + 1 ≤ w9.heap.size := (by have := hb.size; (try simp at this); omega)
      have K9_p0 : Hid (w9.heap[w.heap.size]? = some (.cells #[.int .i64 a0, .int .u32 a1, .int .i64 a2, .slice A_av3 ax3.length cap_av3] 58 (0, 0))) := Lib.hid ((hb.block _ (by first | omega | (simp <;> omega))).trans (by repeat (first | exact K8_p0.out | exact blknew _ _ | exact blknew' _ _ _ (by simp) | with_reducible refine blkal ?_ _ | with_reducible refine blkdrew ?_)))
      have K9_s6 : Hid (w9.heap[w5.heap.size]? = some (.cells #[.int .i64 r00, .int .u32 r01, .int .i64 r02, .slice A5_03 R03.length cap5_03] 28 (0, 0))) := Lib.hid ((hb.block _ (by first | omega | (simp <;> omega))).trans (by repeat (first | exact K8_s6.out | exact blknew _ _ | exact blknew' _ _ _ (by simp) | with_reducible refine blkal ?_ _ | with_reducible refine blkdrew ?_)))
      have K9_s8 : Hid (w9.heap[w6.heap.size]? = some (.cells #[.int .i64 a0, .int .u32 a1, .int .i64 a2, .slice A6 ax3.length cap6] 28 (0, 0))) := Lib.hid ((hb.block _ (by first | omega | (simp <;> omega))).trans (by repeat (first | exact K8_s8.out | exact blknew _ _ | exact blknew' _ _ _ (by simp) | with_reducible refine blkal ?_ _ | with_reducible refine blkdrew ?_)))
      have K9_s10 : Hid (w9.heap[w8.heap.size]? = some (.cells #[.int .i64 r00, .int .u32 r01, .int .i64 r02, .slice A8_03 R03.length cap8_03] 28 (0, 0))) := Lib.hid ((hb.block _ (by first | omega | (simp <;> omega))).trans (by repeat (first | exact blknew _ _ | exact blknew' _ _ _ (by simp) | with_reducible refine blkal ?_ _ | with_reducible refine blkdrew ?_)))
      have O9_3 := Lib.hid (O8_3.out.below (Nat.le_refl _) (bthen (by repeat (first | with_reducible exact Below.refl _ _ | with_reducible refine bal ?_ _ | with_reducible refine bdrew1 ?_)) hb))
      have O9_4 := Lib.hid (O8_4.out.below (Nat.le_refl _) (bthen (by repeat (first | with_reducible exact Below.refl _ _ | with_reducible refine bal ?_ _ | with_reducible refine bdrew1 ?_)) hb))
      have O9_5_03 := Lib.hid (O8_5_03.out.below (Nat.le_refl _) (bthen (by repeat (first | with_reducible exact Below.refl _ _ | with_reducible refine bal ?_ _ | with_reducible refine bdrew1 ?_)) hb))
      have O9_6 := Lib.hid (O8_6.out.below (Nat.le_refl _) (bthen (by repeat (first | with_reducible exact Below.refl _ _ | with_reducible refine bal ?_ _ | with_reducible refine bdrew1 ?_)) hb))
      have O9_7 := Lib.hid (O8_7.out.below (Nat.le_refl _) (bthen (by repeat (first | with_reducible exact Below.refl _ _ | with_reducible refine bal ?_ _ | with_reducible refine bdrew1 ?_)) hb))
      have O9_8_03 := Lib.hid (O8_8_03.out.below (Nat.le_refl _) (bthen (by repeat (first | with_reducible exact Below.refl _ _ | with_reducible refine bal ?_ _ | with_reducible refine bdrew1 ?_)) hb))
      have B9 : Hid (Below w.heap.size w w9) := Lib.hid (bthen (by repeat (first | with_reducible exact B8.out | with_reducible refine bal ?_ _ | with_reducible refine bdrew1 ?_)) hb)
      clear O8_3 O8_4 O8_5_03 O8_6 O8_7 O8_8_03 K8_p0 K8_s6 K8_s8 B8 hb c8_p00 c8_p01 c8_p02 c8_p03 y8_p0 c8_s60 c8_s61 c8_s62 c8_s63 y8_s6 c8_s80 c8_s81 c8_s82 c8_s83 y8_s8
      obtain ⟨c9_p00, c9_p01, c9_p02, c9_p03⟩ := blkc4 K9_p0.out
      have y9_p0 : w.heap.size < w9.heap.size := blklt K9_p0.out
      obtain ⟨c9_s60, c9_s61, c9_s62, c9_s63⟩ := blkc4 K9_s6.out
      have y9_s6 : w5.heap.size < w9.heap.size := blklt K9_s6.out
      obtain ⟨c9_s80, c9_s81, c9_s82, c9_s83⟩ := blkc4 K9_s8.out
      have y9_s8 : w6.heap.size < w9.heap.size := blklt K9_s8.out
      obtain ⟨c9_s100, c9_s101, c9_s102, c9_s103⟩ := blkc4 K9_s10.out
      have y9_s10 : w8.heap.size < w9.heap.size := blklt K9_s10.out
      go_wp2_with fail
      (refine wp_region_held_drew (S := (fun w' => w'.cell? ⟨w.heap.size, 0, none⟩ = some (.int .i64 a0) ∧ w'.cell? ⟨w.heap.size, 1, none⟩ = some (.int .u32 a1) ∧ w'.cell? ⟨w.heap.size, 2, none⟩ = some (.int .i64 a2) ∧ w'.cell? ⟨w.heap.size, 3, none⟩ = some (.slice A_av3 ax3.length cap_av3) ∧ w'.cell? ⟨w6.heap.size, 0, none⟩ = some (.int .i64 a0) ∧ w'.cell? ⟨w6.heap.size, 1, none⟩ = some (.int .u32 a1) ∧ w'.cell? ⟨w6.heap.size, 2, none⟩ = some (.int .i64 a2) ∧ w'.cell? ⟨w6.heap.size, 3, none⟩ = some (.slice A6 ax3.length cap6))) (by kernel_rfl) ?_ (fun hHeld => ?_); (focus (simp [*, go_sem])); refine rg_take 0 (some 54) (v := ?_) rfl (by kernel_rfl) (by kernel_rfl) (by kernel_rfl) (by kernel_rfl) (fun _ _ _ h => h) (Or.inl ⟨by kernel_rfl, ?_⟩) (by assumption) ?_; rotate_left; (focus (intro w' hSw; (try dsimp only at hSw); go_simp; (try with_reducible rfl))); (try simp only [Act.put, List.setIfInBounds_toArray, List.set_cons_zero, List.set_cons_succ]); refine rg_take 1 (some 55) (v := ?_) rfl (by kernel_rfl) (by kernel_rfl) (by kernel_rfl) (by kernel_rfl) (fun _ _ _ h => h) (Or.inl ⟨by kernel_rfl, ?_⟩) (by assumption) ?_; rotate_left; (focus (intro w' hSw; (try dsimp only at hSw); go_simp; (try with_reducible rfl))); (try simp only [Act.put, List.setIfInBounds_toArray, List.set_cons_zero, List.set_cons_succ]); refine wpAnyH_ready (rs := [2]) (by kernel_rfl) (by simp) ?_; refine AllReadyH.cons rfl (fun K hK => ?_) AllReadyH.nil; go_simp; (go_at_call 31; refine Calls.mono (toFlagSum_any _ _ _ _ ax3 _ (ah3.below (by repeat (first | with_reducible exact B9.out | with_reducible refine bal ?_ _ | with_reducible refine bdrew1 ?_))) (by omega)) ?_; rintro e0 w10 ⟨A10, cap10, F10, rfl, hO, hb⟩; have z10 : w9.heap.size + 0 ≤ w10.heap.size := (by have := hb.size; (try simp at this); omega); have K10_p0 : Hid (w10.heap[w.heap.size]? = some (.cells #[.int .i64 a0, .int .u32 a1, .int .i64 a2, .slice A_av3 ax3.length cap_av3] 58 (0, 0))) := Lib.hid ((hb.block _ (by first | omega | (simp <;> omega))).trans (by repeat (first | exact K9_p0.out | exact blknew _ _ | exact blknew' _ _ _ (by simp) | with_reducible refine blkal ?_ _ | with_reducible refine blkdrew ?_))); have K10_s6 : Hid (w10.heap[w5.heap.size]? = some (.cells #[.int .i64 r00, .int .u32 r01, .int .i64 r02, .slice A5_03 R03.length cap5_03] 28 (0, 0))) := Lib.hid ((hb.block _ (by first | omega | (simp <;> omega))).trans (by repeat (first | exact K9_s6.out | exact blknew _ _ | exact blknew' _ _ _ (by simp) | with_reducible refine blkal ?_ _ | with_reducible refine blkdrew ?_))); have K10_s8 : Hid (w10.heap[w6.heap.size]? = some (.cells #[.int .i64 a0, .int .u32 a1, .int .i64 a2, .slice A6 ax3.length cap6] 28 (0, 0))) := Lib.hid ((hb.block _ (by first | omega | (simp <;> omega))).trans (by repeat (first | exact K9_s8.out | exact blknew _ _ | exact blknew' _ _ _ (by simp) | with_reducible refine blkal ?_ _ | with_reducible refine blkdrew ?_))); have K10_s10 : Hid (w10.heap[w8.heap.size]? = some (.cells #[.int .i64 r00, .int .u32 r01, .int .i64 r02, .slice A8_03 R03.length cap8_03] 28 (0, 0))) := Lib.hid ((hb.block _ (by first | omega | (simp <;> omega))).trans (by repeat (first | exact K9_s10.out | exact blknew _ _ | exact blknew' _ _ _ (by simp) | with_reducible refine blkal ?_ _ | with_reducible refine blkdrew ?_))); have O10_3 := Lib.hid (O9_3.out.below (Nat.le_refl _) (bthen (by repeat (first | with_reducible exact Below.refl _ _ | with_reducible refine bal ?_ _ | with_reducible refine bdrew1 ?_)) hb)); have O10_4 := Lib.hid (O9_4.out.below (Nat.le_refl _) (bthen (by repeat (first | with_reducible exact Below.refl _ _ | with_reducible refine bal ?_ _ | with_reducible refine bdrew1 ?_)) hb)); have O10_5_03 := Lib.hid (O9_5_03.out.below (Nat.le_refl _) (bthen (by repeat (first | with_reducible exact Below.refl _ _ | with_reducible refine bal ?_ _ | with_reducible refine bdrew1 ?_)) hb)); have O10_6 := Lib.hid (O9_6.out.below (Nat.le_refl _) (bthen (by repeat (first | with_reducible exact Below.refl _ _ | with_reducible refine bal ?_ _ | with_reducible refine bdrew1 ?_)) hb)); have O10_7 := Lib.hid (O9_7.out.below (Nat.le_refl _) (bthen (by repeat (first | with_reducible exact Below.refl _ _ | with_reducible refine bal ?_ _ | with_reducible refine bdrew1 ?_)) hb)); have O10_8_03 := Lib.hid (O9_8_03.out.below (Nat.le_refl _) (bthen (by repeat (first | with_reducible exact Below.refl _ _ | with_reducible refine bal ?_ _ | with_reducible refine bdrew1 ?_)) hb)); have B10 : Hid (Below w.heap.size w w10) := Lib.hid (bthen (by repeat (first | with_reducible exact B9.out | with_reducible refine bal ?_ _ | with_reducible refine bdrew1 ?_)) hb); have L10_10 : Hid (∀ b ∈ F10, w9.heap.size + 0 ≤ b ∧ b < w10.heap.size) := Lib.hid (fun b hm => ⟨by have := hO.ge b hm; (try simp at this); omega, hO.lt b hm⟩); have O10_10 := Lib.hid hO; clear O9_3 O9_4 O9_5_03 O9_6 O9_7 O9_8_03 K9_p0 K9_s6 K9_s8 K9_s10 hO B9 hb c9_p00 c9_p01 c9_p02 c9_p03 y9_p0 c9_s60 c9_s61 c9_s62 c9_s63 y9_s6 c9_s80 c9_s81 c9_s82 c9_s83 y9_s8 c9_s100 c9_s101 c9_s102 c9_s103 y9_s10; obtain ⟨c10_p00, c10_p01, c10_p02, c10_p03⟩ := blkc4 K10_p0.out; have y10_p0 : w.heap.size < w10.heap.size := blklt K10_p0.out; obtain ⟨c10_s60, c10_s61, c10_s62, c10_s63⟩ := blkc4 K10_s6.out; have y10_s6 : w5.heap.size < w10.heap.size := blklt K10_s6.out; obtain ⟨c10_s80, c10_s81, c10_s82, c10_s83⟩ := blkc4 K10_s8.out; have y10_s8 : w6.heap.size < w10.heap.size := blklt K10_s8.out; obtain ⟨c10_s100, c10_s101, c10_s102, c10_s103⟩ := blkc4 K10_s10.out; have y10_s10 : w8.heap.size < w10.heap.size := blklt K10_s10.out); go_wp2_with fail; refine hK.out _ _ ?_ (fun hHeld => ?_); (focus (simp [*, go_sem])); clear hK K; (try simp only [Act.put, List.setIfInBounds_toArray, List.set_cons_zero, List.set_cons_succ]); refine wpAnyH_ready (rs := [3]) (by kernel_rfl) (by simp) ?_; refine AllReadyH.cons rfl (fun K hK => ?_) AllReadyH.nil; go_simp; (go_at_call 12; refine Calls.mono (eqFlagSum_same _ _ _ _ ax3 _ _ (O10_6.out.lst.below (by repeat (first | with_reducible exact Below.refl _ _ | with_reducible refine bal ?_ _ | with_reducible refine bdrew1 ?_))) (O10_10.out.lst.below (by repeat (first | with_reducible exact Below.refl _ _ | with_reducible refine bal ?_ _ | with_reducible refine bdrew1 ?_))) (by omega)) ?_; rintro e0 w11 ⟨rfl, hb⟩; have z11 : w10.heap.size + 0 ≤ w11.heap.size := (by have := hb.size; (try simp at this); omega); have K11_p0 : Hid (w11.heap[w.heap.size]? = some (.cells #[.int .i64 a0, .int .u32 a1, .int .i64 a2, .slice A_av3 ax3.length cap_av3] 58 (0, 0))) := Lib.hid ((hb.block _ (by first | omega | (simp <;> omega))).trans (by repeat (first | exact K10_p0.out | exact blknew _ _ | exact blknew' _ _ _ (by simp) | with_reducible refine blkal ?_ _ | with_reducible refine blkdrew ?_))); have K11_s6 : Hid (w11.heap[w5.heap.size]? = some (.cells #[.int .i64 r00, .int .u32 r01, .int .i64 r02, .slice A5_03 R03.length cap5_03] 28 (0, 0))) := Lib.hid ((hb.block _ (by first | omega | (simp <;> omega))).trans (by repeat (first | exact K10_s6.out | exact blknew _ _ | exact blknew' _ _ _ (by simp) | with_reducible refine blkal ?_ _ | with_reducible refine blkdrew ?_))); have K11_s8 : Hid (w11.heap[w6.heap.size]? = some (.cells #[.int .i64 a0, .int .u32 a1, .int .i64 a2, .slice A6 ax3.length cap6] 28 (0, 0))) := Lib.hid ((hb.block _ (by first | omega | (simp <;> omega))).trans (by repeat (first | exact K10_s8.out | exact blknew _ _ | exact blknew' _ _ _ (by simp) | with_reducible refine blkal ?_ _ | with_reducible refine blkdrew ?_))); have K11_s10 : Hid (w11.heap[w8.heap.size]? = some (.cells #[.int .i64 r00, .int .u32 r01, .int .i64 r02, .slice A8_03 R03.length cap8_03] 28 (0, 0))) := Lib.hid ((hb.block _ (by first | omega | (simp <;> omega))).trans (by repeat (first | exact K10_s10.out | exact blknew _ _ | exact blknew' _ _ _ (by simp) | with_reducible refine blkal ?_ _ | with_reducible refine blkdrew ?_))); have O11_3 := Lib.hid (O10_3.out.below (Nat.le_refl _) (bthen (by repeat (first | with_reducible exact Below.refl _ _ | with_reducible refine bal ?_ _ | with_reducible refine bdrew1 ?_)) hb)); have O11_4 := Lib.hid (O10_4.out.below (Nat.le_refl _) (bthen (by repeat (first | with_reducible exact Below.refl _ _ | with_reducible refine bal ?_ _ | with_reducible refine bdrew1 ?_)) hb)); have O11_5_03 := Lib.hid (O10_5_03.out.below (Nat.le_refl _) (bthen (by repeat (first | with_reducible exact Below.refl _ _ | with_reducible refine bal ?_ _ | with_reducible refine bdrew1 ?_)) hb)); have O11_6 := Lib.hid (O10_6.out.below (Nat.le_refl _) (bthen (by repeat (first | with_reducible exact Below.refl _ _ | with_reducible refine bal ?_ _ | with_reducible refine bdrew1 ?_)) hb)); have O11_7 := Lib.hid (O10_7.out.below (Nat.le_refl _) (bthen (by repeat (first | with_reducible exact Below.refl _ _ | with_reducible refine bal ?_ _ | with_reducible refine bdrew1 ?_)) hb)); have O11_8_03 := Lib.hid (O10_8_03.out.below (Nat.le_refl _) (bthen (by repeat (first | with_reducible exact Below.refl _ _ | with_reducible refine bal ?_ _ | with_reducible refine bdrew1 ?_)) hb)); have O11_10 := Lib.hid (O10_10.out.below (Nat.le_refl _) (bthen (by repeat (first | with_reducible exact Below.refl _ _ | with_reducible refine bal ?_ _ | with_reducible refine bdrew1 ?_)) hb)); have B11 : Hid (Below w.heap.size w w11) := Lib.hid (bthen (by repeat (first | with_reducible exact B10.out | with_reducible refine bal ?_ _ | with_reducible refine bdrew1 ?_)) hb); clear O10_3 O10_4 O10_5_03 O10_6 O10_7 O10_8_03 O10_10 K10_p0 K10_s6 K10_s8 K10_s10 B10 hb c10_p00 c10_p01 c10_p02 c10_p03 y10_p0 c10_s60 c10_s61 c10_s62 c10_s63 y10_s6 c10_s80 c10_s81 c10_s82 c10_s83 y10_s8 c10_s100 c10_s101 c10_s102 c10_s103 y10_s10; obtain ⟨c11_p00, c11_p01, c11_p02, c11_p03⟩ := blkc4 K11_p0.out; have y11_p0 : w.heap.size < w11.heap.size := blklt K11_p0.out; obtain ⟨c11_s60, c11_s61, c11_s62, c11_s63⟩ := blkc4 K11_s6.out; have y11_s6 : w5.heap.size < w11.heap.size := blklt K11_s6.out; obtain ⟨c11_s80, c11_s81, c11_s82, c11_s83⟩ := blkc4 K11_s8.out; have y11_s8 : w6.heap.size < w11.heap.size := blklt K11_s8.out; obtain ⟨c11_s100, c11_s101, c11_s102, c11_s103⟩ := blkc4 K11_s10.out; have y11_s10 : w8.heap.size < w11.heap.size := blklt K11_s10.out); go_wp2_with fail; refine hK.out _ _ ?_ (fun hHeld => ?_); (focus (simp [*, go_sem])); clear hK K; (try simp only [Act.put, List.setIfInBounds_toArray, List.set_cons_zero, List.set_cons_succ]); refine rg_take 4 (some 58) (v := ?_) rfl (by kernel_rfl) (by kernel_rfl) (by kernel_rfl) (by kernel_rfl) (fun _ _ _ h => h) (Or.inl ⟨by kernel_rfl, ?_⟩) (by assumption) ?_; rotate_left; (focus (intro w' hSw; (try dsimp only at hSw); go_simp; (try with_reducible rfl))); (try simp only [Act.put, List.setIfInBounds_toArray, List.set_cons_zero, List.set_cons_succ]); refine wpAnyH_done (by kernel_rfl) ?_ _)
      clear hHeld
      go_wp2_with fail
      refine Calls.mono (toGraphS_any _ bx0 _ (bh0.below (by repeat (first | with_reducible exact B11.out | with_reducible refine bal ?_ _ | with_reducible refine bdrew1 ?_))) (by omega)) ?_
      rintro e0 w12 ⟨A12, cap12, F12, rfl, hO, hb⟩
      have z12 : w11.heap.size + 0 ≤ w12.heap.size := (by have := hb.size; (try simp at this); omega)
      have K12_p0 : Hid (w12.heap[w.heap.size]? = some (.cells #[.int .i64 a0, .int .u32 a1, .int .i64 a2, .slice A_av3 ax3.length cap_av3] 58 (0, 0))) := Lib.hid ((hb.block _ (by first | omega | (simp <;> omega))).trans (by repeat (first | exact K11_p0.out | exact blknew _ _ | exact blknew' _ _ _ (by simp) | with_reducible refine blkal ?_ _ | with_reducible refine blkdrew ?_)))
      have K12_s6 : Hid (w12.heap[w5.heap.size]? = some (.cells #[.int .i64 r00, .int .u32 r01, .int .i64 r02, .slice A5_03 R03.length cap5_03] 28 (0, 0))) := Lib.hid ((hb.block _ (by first | omega | (simp <;> omega))).trans (by repeat (first | exact K11_s6.out | exact blknew _ _ | exact blknew' _ _ _ (by simp) | with_reducible refine blkal ?_ _ | with_reducible refine blkdrew ?_)))
      have K12_s8 : Hid (w12.heap[w6.heap.size]? = some (.cells #[.int .i64 a0, .int .u32 a1, .int .i64 a2, .slice A6 ax3.length cap6] 28 (0, 0))) := Lib.hid ((hb.block _ (by first | omega | (simp <;> omega))).trans (by repeat (first | exact K11_s8.out | exact blknew _ _ | exact blknew' _ _ _ (by simp) | with_reducible refine blkal ?_ _ | with_reducible refine blkdrew ?_)))
      have K12_s10 : Hid (w12.heap[w8.heap.size]? = some (.cells #[.int .i64 r00, .int .u32 r01, .int .i64 r02, .slice A8_03 R03.length cap8_03] 28 (0, 0))) := Lib.hid ((hb.block _ (by first | omega | (simp <;> omega))).trans (by repeat (first | exact K11_s10.out | exact blknew _ _ | exact blknew' _ _ _ (by simp) | with_reducible refine blkal ?_ _ | with_reducible refine blkdrew ?_)))
      have O12_3 := Lib.hid (O11_3.out.below (Nat.le_refl _) (bthen (by repeat (first | with_reducible exact Below.refl _ _ | with_reducible refine bal ?_ _ | with_reducible refine bdrew1 ?_)) hb))
      have O12_4 := Lib.hid (O11_4.out.below (Nat.le_refl _) (bthen (by repeat (first | with_reducible exact Below.refl _ _ | with_reducible refine bal ?_ _ | with_reducible refine bdrew1 ?_)) hb))
      have O12_5_03 := Lib.hid (O11_5_03.out.below (Nat.le_refl _) (bthen (by repeat (first | with_reducible exact Below.refl _ _ | with_reducible refine bal ?_ _ | with_reducible refine bdrew1 ?_)) hb))
      have O12_6 := Lib.hid (O11_6.out.below (Nat.le_refl _) (bthen (by repeat (first | with_reducible exact Below.refl _ _ | with_reducible refine bal ?_ _ | with_reducible refine bdrew1 ?_)) hb))
      have O12_7 := Lib.hid (O11_7.out.below (Nat.le_refl _) (bthen (by repeat (first | with_reducible exact Below.refl _ _ | with_reducible refine bal ?_ _ | with_reducible refine bdrew1 ?_)) hb))
      have O12_8_03 := Lib.hid (O11_8_03.out.below (Nat.le_refl _) (bthen (by repeat (first | with_reducible exact Below.refl _ _ | with_reducible refine bal ?_ _ | with_reducible refine bdrew1 ?_)) hb))
      have O12_10 := Lib.hid (O11_10.out.below (Nat.le_refl _) (bthen (by repeat (first | with_reducible exact Below.refl _ _ | with_reducible refine bal ?_ _ | with_reducible refine bdrew1 ?_)) hb))
      have B12 : Hid (Below w.heap.size w w12) := Lib.hid (bthen (by repeat (first | with_reducible exact B11.out | with_reducible refine bal ?_ _ | with_reducible refine bdrew1 ?_)) hb)
      have L12_12 : Hid (∀ b ∈ F12, w11.heap.size + 0 ≤ b ∧ b < w12.heap.size) := Lib.hid (fun b hm => ⟨by have := hO.ge b hm; (try simp at this); omega, hO.lt b hm⟩)
      have O12_12 := Lib.hid hO
      clear O11_3 O11_4 O11_5_03 O11_6 O11_7 O11_8_03 O11_10 K11_p0 K11_s6 K11_s8 K11_s10 hO B11 hb c11_p00 c11_p01 c11_p02 c11_p03 y11_p0 c11_s60 c11_s61 c11_s62 c11_s63 y11_s6 c11_s80 c11_s81 c11_s82 c11_s83 y11_s8 c11_s100 c11_s101 c11_s102 c11_s103 y11_s10
      obtain ⟨c12_p00, c12_p01, c12_p02, c12_p03⟩ := blkc4 K12_p0.out
      have y12_p0 : w.heap.size < w12.heap.size := blklt K12_p0.out
      obtain ⟨c12_s60, c12_s61, c12_s62, c12_s63⟩ := blkc4 K12_s6.out
      have y12_s6 : w5.heap.size < w12.heap.size := blklt K12_s6.out
      obtain ⟨c12_s80, c12_s81, c12_s82, c12_s83⟩ := blkc4 K12_s8.out
      have y12_s8 : w6.heap.size < w12.heap.size := blklt K12_s8.out
      obtain ⟨c12_s100, c12_s101, c12_s102, c12_s103⟩ := blkc4 K12_s10.out
      have y12_s10 : w8.heap.size < w12.heap.size := blklt K12_s10.out
      go_wp2_with fail
      refine Calls.mono (eqGraphS_same _ bx0 _ _ (O12_7.out.lst.below (by repeat (first | with_reducible exact Below.refl _ _ | with_reducible refine bal ?_ _ | with_reducible refine bdrew1 ?_))) (O12_12.out.lst.below (by repeat (first | with_reducible exact Below.refl _ _ | with_reducible refine bal ?_ _ | with_reducible refine bdrew1 ?_))) (by omega)) ?_
      rintro e0 w13 ⟨rfl, hb⟩
      have z13 : w12.heap.size + 0 ≤ w13.heap.size := (by have := hb.size; (try simp at this); omega)
      have K13_p0 : Hid (w13.heap[w.heap.size]? = some (.cells #[.int .i64 a0, .int .u32 a1, .int .i64 a2, .slice A_av3 ax3.length cap_av3] 58 (0, 0))) := Lib.hid ((hb.block _ (by first | omega | (simp <;> omega))).trans (by repeat (first | exact K12_p0.out | exact blknew _ _ | exact blknew' _ _ _ (by simp) | with_reducible refine blkal ?_ _ | with_reducible refine blkdrew ?_)))
      have K13_s6 : Hid (w13.heap[w5.heap.size]? = some (.cells #[.int .i64 r00, .int .u32 r01, .int .i64 r02, .slice A5_03 R03.length cap5_03] 28 (0, 0))) := Lib.hid ((hb.block _ (by first | omega | (simp <;> omega))).trans (by repeat (first | exact K12_s6.out | exact blknew _ _ | exact blknew' _ _ _ (by simp) | with_reducible refine blkal ?_ _ | with_reducible refine blkdrew ?_)))
      have K13_s8 : Hid (w13.heap[w6.heap.size]? = some (.cells #[.int .i64 a0, .int .u32 a1, .int .i64 a2, .slice A6 ax3.length cap6] 28 (0, 0))) := Lib.hid ((hb.block _ (by first | omega | (simp <;> omega))).trans (by repeat (first | exact K12_s8.out | exact blknew _ _ | exact blknew' _ _ _ (by simp) | with_reducible refine blkal ?_ _ | with_reducible refine blkdrew ?_)))
      have K13_s10 : Hid (w13.heap[w8.heap.size]? = some (.cells #[.int .i64 r00, .int .u32 r01, .int .i64 r02, .slice A8_03 R03.length cap8_03] 28 (0, 0))) := Lib.hid ((hb.block _ (by first | omega | (simp <;> omega))).trans (by repeat (first | exact K12_s10.out | exact blknew _ _ | exact blknew' _ _ _ (by simp) | with_reducible refine blkal ?_ _ | with_reducible refine blkdrew ?_)))
      have O13_3 := Lib.hid (O12_3.out.below (Nat.le_refl _) (bthen (by repeat (first | with_reducible exact Below.refl _ _ | with_reducible refine bal ?_ _ | with_reducible refine bdrew1 ?_)) hb))
      have O13_4 := Lib.hid (O12_4.out.below (Nat.le_refl _) (bthen (by repeat (first | with_reducible exact Below.refl _ _ | with_reducible refine bal ?_ _ | with_reducible refine bdrew1 ?_)) hb))
      have O13_5_03 := Lib.hid (O12_5_03.out.below (Nat.le_refl _) (bthen (by repeat (first | with_reducible exact Below.refl _ _ | with_reducible refine bal ?_ _ | with_reducible refine bdrew1 ?_)) hb))
      have O13_6 := Lib.hid (O12_6.out.below (Nat.le_refl _) (bthen (by repeat (first | with_reducible exact Below.refl _ _ | with_reducible refine bal ?_ _ | with_reducible refine bdrew1 ?_)) hb))
      have O13_7 := Lib.hid (O12_7.out.below (Nat.le_refl _) (bthen (by repeat (first | with_reducible exact Below.refl _ _ | with_reducible refine bal ?_ _ | with_reducible refine bdrew1 ?_)) hb))
      have O13_8_03 := Lib.hid (O12_8_03.out.below (Nat.le_refl _) (bthen (by repeat (first | with_reducible exact Below.refl _ _ | with_reducible refine bal ?_ _ | with_reducible refine bdrew1 ?_)) hb))
      have O13_10 := Lib.hid (O12_10.out.below (Nat.le_refl _) (bthen (by repeat (first | with_reducible exact Below.refl _ _ | with_reducible refine bal ?_ _ | with_reducible refine bdrew1 ?_)) hb))
      have O13_12 := Lib.hid (O12_12.out.below (Nat.le_refl _) (bthen (by repeat (first | with_reducible exact Below.refl _ _ | with_reducible refine bal ?_ _ | with_reducible refine bdrew1 ?_)) hb))
      have B13 : Hid (Below w.heap.size w w13) := Lib.hid (bthen (by repeat (first | with_reducible exact B12.out | with_reducible refine bal ?_ _ | with_reducible refine bdrew1 ?_)) hb)
      clear O12_3 O12_4 O12_5_03 O12_6 O12_7 O12_8_03 O12_10 O12_12 K12_p0 K12_s6 K12_s8 K12_s10 B12 hb c12_p00 c12_p01 c12_p02 c12_p03 y12_p0 c12_s60 c12_s61 c12_s62 c12_s63 y12_s6 c12_s80 c12_s81 c12_s82 c12_s83 y12_s8 c12_s100 c12_s101 c12_s102 c12_s103 y12_s10
      obtain ⟨c13_p00, c13_p01, c13_p02, c13_p03⟩ := blkc4 K13_p0.out
      have y13_p0 : w.heap.size < w13.heap.size := blklt K13_p0.out
      obtain ⟨c13_s60, c13_s61, c13_s62, c13_s63⟩ := blkc4 K13_s6.out
      have y13_s6 : w5.heap.size < w13.heap.size := blklt K13_s6.out
      obtain ⟨c13_s80, c13_s81, c13_s82, c13_s83⟩ := blkc4 K13_s8.out
      have y13_s8 : w6.heap.size < w13.heap.size := blklt K13_s8.out
      obtain ⟨c13_s100, c13_s101, c13_s102, c13_s103⟩ := blkc4 K13_s10.out
      have y13_s10 : w8.heap.size < w13.heap.size := blklt K13_s10.out
      go_wp2_with fail
      refine Calls.mono (markFlagSum_any _ _ _ _ _ ax3 _ _ _ (O13_6.out.below (Nat.le_refl _) (by repeat (first | with_reducible exact Below.refl _ _ | with_reducible refine bal ?_ _ | with_reducible refine bdrew1 ?_))) (by omega) (by omega)) ?_
      rintro e0 w14 ⟨rfl, hO, hC⟩
      have z14 : w13.heap.size + 0 ≤ w14.heap.size := (by have := hC.2.2.2.1; (try simp at this); omega)
      have N14 := L6_6.out
      have K14_p0 : Hid (w14.heap[w.heap.size]? = some (.cells #[.int .i64 a0, .int .u32 a1, .int .i64 a2, .slice A_av3 ax3.length cap_av3] 58 (0, 0))) := Lib.hid ((hC.2.2.2.2 _ (by first | omega | (simp <;> omega)) (fun hm => by first | (have := N14 _ hm; omega))).trans (by repeat (first | exact K13_p0.out | exact blknew _ _ | exact blknew' _ _ _ (by simp) | with_reducible refine blkal ?_ _ | with_reducible refine blkdrew ?_)))
      have K14_s6 : Hid (w14.heap[w5.heap.size]? = some (.cells #[.int .i64 r00, .int .u32 r01, .int .i64 r02, .slice A5_03 R03.length cap5_03] 28 (0, 0))) := Lib.hid ((hC.2.2.2.2 _ (by first | omega | (simp <;> omega)) (fun hm => by first | (have := N14 _ hm; omega))).trans (by repeat (first | exact K13_s6.out | exact blknew _ _ | exact blknew' _ _ _ (by simp) | with_reducible refine blkal ?_ _ | with_reducible refine blkdrew ?_)))
      have K14_s8 : Hid (w14.heap[w6.heap.size]? = some (.cells #[.int .i64 a0, .int .u32 a1, .int .i64 a2, .slice A6 ax3.length cap6] 28 (0, 0))) := Lib.hid ((hC.2.2.2.2 _ (by first | omega | (simp <;> omega)) (fun hm => by first | (have := N14 _ hm; omega))).trans (by repeat (first | exact K13_s8.out | exact blknew _ _ | exact blknew' _ _ _ (by simp) | with_reducible refine blkal ?_ _ | with_reducible refine blkdrew ?_)))
      have K14_s10 : Hid (w14.heap[w8.heap.size]? = some (.cells #[.int .i64 r00, .int .u32 r01, .int .i64 r02, .slice A8_03 R03.length cap8_03] 28 (0, 0))) := Lib.hid ((hC.2.2.2.2 _ (by first | omega | (simp <;> omega)) (fun hm => by first | (have := N14 _ hm; omega))).trans (by repeat (first | exact K13_s10.out | exact blknew _ _ | exact blknew' _ _ _ (by simp) | with_reducible refine blkal ?_ _ | with_reducible refine blkdrew ?_)))
      have O14_3 := Lib.hid (Own.bchgR O13_3.out (by repeat (first | with_reducible exact Below.refl _ _ | with_reducible refine bal ?_ _ | with_reducible refine bdrew1 ?_)) hC (fun b g1 g2 => by have := L3_3.out b g1; have := N14 b g2; omega))
      have O14_4 := Lib.hid (Own.bchgR O13_4.out (by repeat (first | with_reducible exact Below.refl _ _ | with_reducible refine bal ?_ _ | with_reducible refine bdrew1 ?_)) hC (fun b g1 g2 => by have := L4_4.out b g1; have := N14 b g2; omega))
      have O14_5_03 := Lib.hid (Own.bchgR O13_5_03.out (by repeat (first | with_reducible exact Below.refl _ _ | with_reducible refine bal ?_ _ | with_reducible refine bdrew1 ?_)) hC (fun b g1 g2 => by have := L5_5_03.out b g1; have := N14 b g2; omega))
      have O14_6 := Lib.hid hO
      have O14_7 := Lib.hid (Own.bchgR O13_7.out (by repeat (first | with_reducible exact Below.refl _ _ | with_reducible refine bal ?_ _ | with_reducible refine bdrew1 ?_)) hC (fun b g1 g2 => by have := L7_7.out b g1; have := N14 b g2; omega))
      have O14_8_03 := Lib.hid (Own.bchgR O13_8_03.out (by repeat (first | with_reducible exact Below.refl _ _ | with_reducible refine bal ?_ _ | with_reducible refine bdrew1 ?_)) hC (fun b g1 g2 => by have := L8_8_03.out b g1; have := N14 b g2; omega))
      have O14_10 := Lib.hid (Own.bchgR O13_10.out (by repeat (first | with_reducible exact Below.refl _ _ | with_reducible refine bal ?_ _ | with_reducible refine bdrew1 ?_)) hC (fun b g1 g2 => by have := L10_10.out b g1; have := N14 b g2; omega))
      have O14_12 := Lib.hid (Own.bchgR O13_12.out (by repeat (first | with_reducible exact Below.refl _ _ | with_reducible refine bal ?_ _ | with_reducible refine bdrew1 ?_)) hC (fun b g1 g2 => by have := L12_12.out b g1; have := N14 b g2; omega))
      have B14 : Hid (Below w.heap.size w w14) := Lib.hid (Below.trans (by repeat (first | with_reducible exact B13.out | with_reducible refine bal ?_ _ | with_reducible refine bdrew1 ?_)) (hC.below (B := w.heap.size) (fun b g2 => by have := N14 b g2; omega) (by first | omega | (simp; omega))))
      clear O13_3 O13_4 O13_5_03 O13_6 O13_7 O13_8_03 O13_10 O13_12 K13_p0 K13_s6 K13_s8 K13_s10 B13 hC N14 c13_p00 c13_p01 c13_p02 c13_p03 y13_p0 c13_s60 c13_s61 c13_s62 c13_s63 y13_s6 c13_s80 c13_s81 c13_s82 c13_s83 y13_s8 c13_s100 c13_s101 c13_s102 c13_s103 y13_s10
      obtain ⟨c14_p00, c14_p01, c14_p02, c14_p03⟩ := blkc4 K14_p0.out
      have y14_p0 : w.heap.size < w14.heap.size := blklt K14_p0.out
      obtain ⟨c14_s60, c14_s61, c14_s62, c14_s63⟩ := blkc4 K14_s6.out
      have y14_s6 : w5.heap.size < w14.heap.size := blklt K14_s6.out
      obtain ⟨c14_s80, c14_s81, c14_s82, c14_s83⟩ := blkc4 K14_s8.out
      have y14_s8 : w6.heap.size < w14.heap.size := blklt K14_s8.out
      obtain ⟨c14_s100, c14_s101, c14_s102, c14_s103⟩ := blkc4 K14_s10.out
      have y14_s10 : w8.heap.size < w14.heap.size := blklt K14_s10.out
      have hk14 : (0 : Int) ≤ 1 + 5 * (ax3.length : Int) := (by omega)
      have hq14 : ((1 + 5 * (ax3.length : Int)) != (1 + 5 * (ax3.length : Int))) = false := (by simp)
      go_wp2_with fail
      refine Calls.mono (markGraphS_any _ _ bx0 _ _ _ (O14_7.out.below (Nat.le_refl _) (by repeat (first | with_reducible exact Below.refl _ _ | with_reducible refine bal ?_ _ | with_reducible refine bdrew1 ?_))) (by omega) (by omega)) ?_
      rintro e0 w15 ⟨rfl, hO, hC⟩
      have z15 : w14.heap.size + 0 ≤ w15.heap.size := (by have := hC.2.2.2.1; (try simp at this); omega)
      have N15 := L7_7.out
      have K15_p0 : Hid (w15.heap[w.heap.size]? = some (.cells #[.int .i64 a0, .int .u32 a1, .int .i64 a2, .slice A_av3 ax3.length cap_av3] 58 (0, 0))) := Lib.hid ((hC.2.2.2.2 _ (by first | omega | (simp <;> omega)) (fun hm => by first | (have := N15 _ hm; omega))).trans (by repeat (first | exact K14_p0.out | exact blknew _ _ | exact blknew' _ _ _ (by simp) | with_reducible refine blkal ?_ _ | with_reducible refine blkdrew ?_)))
      have K15_s6 : Hid (w15.heap[w5.heap.size]? = some (.cells #[.int .i64 r00, .int .u32 r01, .int .i64 r02, .slice A5_03 R03.length cap5_03] 28 (0, 0))) := Lib.hid ((hC.2.2.2.2 _ (by first | omega | (simp <;> omega)) (fun hm => by first | (have := N15 _ hm; omega))).trans (by repeat (first | exact K14_s6.out | exact blknew _ _ | exact blknew' _ _ _ (by simp) | with_reducible refine blkal ?_ _ | with_reducible refine blkdrew ?_)))
      have K15_s8 : Hid (w15.heap[w6.heap.size]? = some (.cells #[.int .i64 a0, .int .u32 a1, .int .i64 a2, .slice A6 ax3.length cap6] 28 (0, 0))) := Lib.hid ((hC.2.2.2.2 _ (by first | omega | (simp <;> omega)) (fun hm => by first | (have := N15 _ hm; omega))).trans (by repeat (first | exact K14_s8.out | exact blknew _ _ | exact blknew' _ _ _ (by simp) | with_reducible refine blkal ?_ _ | with_reducible refine blkdrew ?_)))
      have K15_s10 : Hid (w15.heap[w8.heap.size]? = some (.cells #[.int .i64 r00, .int .u32 r01, .int .i64 r02, .slice A8_03 R03.length cap8_03] 28 (0, 0))) := Lib.hid ((hC.2.2.2.2 _ (by first | omega | (simp <;> omega)) (fun hm => by first | (have := N15 _ hm; omega))).trans (by repeat (first | exact K14_s10.out | exact blknew _ _ | exact blknew' _ _ _ (by simp) | with_reducible refine blkal ?_ _ | with_reducible refine blkdrew ?_)))
      have O15_3 := Lib.hid (Own.bchgR O14_3.out (by repeat (first | with_reducible exact Below.refl _ _ | with_reducible refine bal ?_ _ | with_reducible refine bdrew1 ?_)) hC (fun b g1 g2 => by have := L3_3.out b g1; have := N15 b g2; omega))
      have O15_4 := Lib.hid (Own.bchgR O14_4.out (by repeat (first | with_reducible exact Below.refl _ _ | with_reducible refine bal ?_ _ | with_reducible refine bdrew1 ?_)) hC (fun b g1 g2 => by have := L4_4.out b g1; have := N15 b g2; omega))
      have O15_5_03 := Lib.hid (Own.bchgR O14_5_03.out (by repeat (first | with_reducible exact Below.refl _ _ | with_reducible refine bal ?_ _ | with_reducible refine bdrew1 ?_)) hC (fun b g1 g2 => by have := L5_5_03.out b g1; have := N15 b g2; omega))
      have O15_6 := Lib.hid (Own.bchgR O14_6.out (by repeat (first | with_reducible exact Below.refl _ _ | with_reducible refine bal ?_ _ | with_reducible refine bdrew1 ?_)) hC (fun b g1 g2 => by have := L6_6.out b g1; have := N15 b g2; omega))
      have O15_7 := Lib.hid hO
      have O15_8_03 := Lib.hid (Own.bchgR O14_8_03.out (by repeat (first | with_reducible exact Below.refl _ _ | with_reducible refine bal ?_ _ | with_reducible refine bdrew1 ?_)) hC (fun b g1 g2 => by have := L8_8_03.out b g1; have := N15 b g2; omega))
      have O15_10 := Lib.hid (Own.bchgR O14_10.out (by repeat (first | with_reducible exact Below.refl _ _ | with_reducible refine bal ?_ _ | with_reducible refine bdrew1 ?_)) hC (fun b g1 g2 => by have := L10_10.out b g1; have := N15 b g2; omega))
      have O15_12 := Lib.hid (Own.bchgR O14_12.out (by repeat (first | with_reducible exact Below.refl _ _ | with_reducible refine bal ?_ _ | with_reducible refine bdrew1 ?_)) hC (fun b g1 g2 => by have := L12_12.out b g1; have := N15 b g2; omega))
      have B15 : Hid (Below w.heap.size w w15) := Lib.hid (Below.trans (by repeat (first | with_reducible exact B14.out | with_reducible refine bal ?_ _ | with_reducible refine bdrew1 ?_)) (hC.below (B := w.heap.size) (fun b g2 => by have := N15 b g2; omega) (by first | omega | (simp; omega))))
      clear O14_3 O14_4 O14_5_03 O14_6 O14_7 O14_8_03 O14_10 O14_12 K14_p0 K14_s6 K14_s8 K14_s10 B14 hC N15 c14_p00 c14_p01 c14_p02 c14_p03 y14_p0 c14_s60 c14_s61 c14_s62 c14_s63 y14_s6 c14_s80 c14_s81 c14_s82 c14_s83 y14_s8 c14_s100 c14_s101 c14_s102 c14_s103 y14_s10
      obtain ⟨c15_p00, c15_p01, c15_p02, c15_p03⟩ := blkc4 K15_p0.out
      have y15_p0 : w.heap.size < w15.heap.size := blklt K15_p0.out
      obtain ⟨c15_s60, c15_s61, c15_s62, c15_s63⟩ := blkc4 K15_s6.out
      have y15_s6 : w5.heap.size < w15.heap.size := blklt K15_s6.out
      obtain ⟨c15_s80, c15_s81, c15_s82, c15_s83⟩ := blkc4 K15_s8.out
      have y15_s8 : w6.heap.size < w15.heap.size := blklt K15_s8.out
      obtain ⟨c15_s100, c15_s101, c15_s102, c15_s103⟩ := blkc4 K15_s10.out
      have y15_s10 : w8.heap.size < w15.heap.size := blklt K15_s10.out
      have hk15 : (0 : Int) ≤ 1 + 5 * (ax3.length : Int) + 2 * (bx0.length : Int) := (by omega)
      have hq15 : ((1 + 5 * (ax3.length : Int) + 2 * (bx0.length : Int)) != (1 + 5 * (ax3.length : Int) + 2 * (bx0.length : Int))) = false := (by simp)
      go_wp2_with fail
      refine Calls.mono (eqFlagSum_same _ _ _ _ R03 _ _ (O15_8_03.out.lst.below (by repeat (first | with_reducible exact Below.refl _ _ | with_reducible refine bal ?_ _ | with_reducible refine bdrew1 ?_))) (O15_5_03.out.lst.below (by repeat (first | with_reducible exact Below.refl _ _ | with_reducible refine bal ?_ _ | with_reducible refine bdrew1 ?_))) (by omega)) ?_
      rintro e0 w16 ⟨rfl, hb⟩
      have z16 : w15.heap.size + 0 ≤ w16.heap.size := (by have := hb.size; (try simp at this); omega)
      have K16_p0 : Hid (w16.heap[w.heap.size]? = some (.cells #[.int .i64 a0, .int .u32 a1, .int .i64 a2, .slice A_av3 ax3.length cap_av3] 58 (0, 0))) := Lib.hid ((hb.block _ (by first | omega | (simp <;> omega))).trans (by repeat (first | exact K15_p0.out | exact blknew _ _ | exact blknew' _ _ _ (by simp) | with_reducible refine blkal ?_ _ | with_reducible refine blkdrew ?_)))
      have K16_s6 : Hid (w16.heap[w5.heap.size]? = some (.cells #[.int .i64 r00, .int .u32 r01, .int .i64 r02, .slice A5_03 R03.length cap5_03] 28 (0, 0))) := Lib.hid ((hb.block _ (by first | omega | (simp <;> omega))).trans (by repeat (first | exact K15_s6.out | exact blknew _ _ | exact blknew' _ _ _ (by simp) | with_reducible refine blkal ?_ _ | with_reducible refine blkdrew ?_)))
      have K16_s8 : Hid (w16.heap[w6.heap.size]? = some (.cells #[.int .i64 a0, .int .u32 a1, .int .i64 a2, .slice A6 ax3.length cap6] 28 (0, 0))) := Lib.hid ((hb.block _ (by first | omega | (simp <;> omega))).trans (by repeat (first | exact K15_s8.out | exact blknew _ _ | exact blknew' _ _ _ (by simp) | with_reducible refine blkal ?_ _ | with_reducible refine blkdrew ?_)))
      have K16_s10 : Hid (w16.heap[w8.heap.size]? = some (.cells #[.int .i64 r00, .int .u32 r01, .int .i64 r02, .slice A8_03 R03.length cap8_03] 28 (0, 0))) := Lib.hid ((hb.block _ (by first | omega | (simp <;> omega))).trans (by repeat (first | exact K15_s10.out | exact blknew _ _ | exact blknew' _ _ _ (by simp) | with_reducible refine blkal ?_ _ | with_reducible refine blkdrew ?_)))
      have O16_3 := Lib.hid (O15_3.out.below (Nat.le_refl _) (bthen (by repeat (first | with_reducible exact Below.refl _ _ | with_reducible refine bal ?_ _ | with_reducible refine bdrew1 ?_)) hb))
      have O16_4 := Lib.hid (O15_4.out.below (Nat.le_refl _) (bthen (by repeat (first | with_reducible exact Below.refl _ _ | with_reducible refine bal ?_ _ | with_reducible refine bdrew1 ?_)) hb))
      have O16_5_03 := Lib.hid (O15_5_03.out.below (Nat.le_refl _) (bthen (by repeat (first | with_reducible exact Below.refl _ _ | with_reducible refine bal ?_ _ | with_reducible refine bdrew1 ?_)) hb))
      have O16_6 := Lib.hid (O15_6.out.below (Nat.le_refl _) (bthen (by repeat (first | with_reducible exact Below.refl _ _ | with_reducible refine bal ?_ _ | with_reducible refine bdrew1 ?_)) hb))
      have O16_7 := Lib.hid (O15_7.out.below (Nat.le_refl _) (bthen (by repeat (first | with_reducible exact Below.refl _ _ | with_reducible refine bal ?_ _ | with_reducible refine bdrew1 ?_)) hb))
      have O16_8_03 := Lib.hid (O15_8_03.out.below (Nat.le_refl _) (bthen (by repeat (first | with_reducible exact Below.refl _ _ | with_reducible refine bal ?_ _ | with_reducible refine bdrew1 ?_)) hb))
      have O16_10 := Lib.hid (O15_10.out.below (Nat.le_refl _) (bthen (by repeat (first | with_reducible exact Below.refl _ _ | with_reducible refine bal ?_ _ | with_reducible refine bdrew1 ?_)) hb))
      have O16_12 := Lib.hid (O15_12.out.below (Nat.le_refl _) (bthen (by repeat (first | with_reducible exact Below.refl _ _ | with_reducible refine bal ?_ _ | with_reducible refine bdrew1 ?_)) hb))
      have B16 : Hid (Below w.heap.size w w16) := Lib.hid (bthen (by repeat (first | with_reducible exact B15.out | with_reducible refine bal ?_ _ | with_reducible refine bdrew1 ?_)) hb)
      clear O15_3 O15_4 O15_5_03 O15_6 O15_7 O15_8_03 O15_10 O15_12 K15_p0 K15_s6 K15_s8 K15_s10 B15 hb c15_p00 c15_p01 c15_p02 c15_p03 y15_p0 c15_s60 c15_s61 c15_s62 c15_s63 y15_s6 c15_s80 c15_s81 c15_s82 c15_s83 y15_s8 c15_s100 c15_s101 c15_s102 c15_s103 y15_s10
      obtain ⟨c16_p00, c16_p01, c16_p02, c16_p03⟩ := blkc4 K16_p0.out
      have y16_p0 : w.heap.size < w16.heap.size := blklt K16_p0.out
      obtain ⟨c16_s60, c16_s61, c16_s62, c16_s63⟩ := blkc4 K16_s6.out
      have y16_s6 : w5.heap.size < w16.heap.size := blklt K16_s6.out
      obtain ⟨c16_s80, c16_s81, c16_s82, c16_s83⟩ := blkc4 K16_s8.out
      have y16_s8 : w6.heap.size < w16.heap.size := blklt K16_s8.out
      obtain ⟨c16_s100, c16_s101, c16_s102, c16_s103⟩ := blkc4 K16_s10.out
      have y16_s10 : w8.heap.size < w16.heap.size := blklt K16_s10.out
      go_wp2_with fail
      refine Calls.mono (markFlagSum_any _ _ _ _ _ R03 _ _ _ (O16_8_03.out.below (Nat.le_refl _) (by repeat (first | with_reducible exact Below.refl _ _ | with_reducible refine bal ?_ _ | with_reducible refine bdrew1 ?_))) (by omega) (by omega)) ?_
      rintro e0 w17 ⟨rfl, hO, hC⟩
      have z17 : w16.heap.size + 0 ≤ w17.heap.size := (by have := hC.2.2.2.1; (try simp at this); omega)
      have N17 := L8_8_03.out
      have K17_p0 : Hid (w17.heap[w.heap.size]? = some (.cells #[.int .i64 a0, .int .u32 a1, .int .i64 a2, .slice A_av3 ax3.length cap_av3] 58 (0, 0))) := Lib.hid ((hC.2.2.2.2 _ (by first | omega | (simp <;> omega)) (fun hm => by first | (have := N17 _ hm; omega))).trans (by repeat (first | exact K16_p0.out | exact blknew _ _ | exact blknew' _ _ _ (by simp) | with_reducible refine blkal ?_ _ | with_reducible refine blkdrew ?_)))
      have K17_s6 : Hid (w17.heap[w5.heap.size]? = some (.cells #[.int .i64 r00, .int .u32 r01, .int .i64 r02, .slice A5_03 R03.length cap5_03] 28 (0, 0))) := Lib.hid ((hC.2.2.2.2 _ (by first | omega | (simp <;> omega)) (fun hm => by first | (have := N17 _ hm; omega))).trans (by repeat (first | exact K16_s6.out | exact blknew _ _ | exact blknew' _ _ _ (by simp) | with_reducible refine blkal ?_ _ | with_reducible refine blkdrew ?_)))
      have K17_s8 : Hid (w17.heap[w6.heap.size]? = some (.cells #[.int .i64 a0, .int .u32 a1, .int .i64 a2, .slice A6 ax3.length cap6] 28 (0, 0))) := Lib.hid ((hC.2.2.2.2 _ (by first | omega | (simp <;> omega)) (fun hm => by first | (have := N17 _ hm; omega))).trans (by repeat (first | exact K16_s8.out | exact blknew _ _ | exact blknew' _ _ _ (by simp) | with_reducible refine blkal ?_ _ | with_reducible refine blkdrew ?_)))
      have K17_s10 : Hid (w17.heap[w8.heap.size]? = some (.cells #[.int .i64 r00, .int .u32 r01, .int .i64 r02, .slice A8_03 R03.length cap8_03] 28 (0, 0))) := Lib.hid ((hC.2.2.2.2 _ (by first | omega | (simp <;> omega)) (fun hm => by first | (have := N17 _ hm; omega))).trans (by repeat (first | exact K16_s10.out | exact blknew _ _ | exact blknew' _ _ _ (by simp) | with_reducible refine blkal ?_ _ | with_reducible refine blkdrew ?_)))
      have O17_3 := Lib.hid (Own.bchgR O16_3.out (by repeat (first | with_reducible exact Below.refl _ _ | with_reducible refine bal ?_ _ | with_reducible refine bdrew1 ?_)) hC (fun b g1 g2 => by have := L3_3.out b g1; have := N17 b g2; omega))
      have O17_4 := Lib.hid (Own.bchgR O16_4.out (by repeat (first | with_reducible exact Below.refl _ _ | with_reducible refine bal ?_ _ | with_reducible refine bdrew1 ?_)) hC (fun b g1 g2 => by have := L4_4.out b g1; have := N17 b g2; omega))
      have O17_5_03 := Lib.hid (Own.bchgR O16_5_03.out (by repeat (first | with_reducible exact Below.refl _ _ | with_reducible refine bal ?_ _ | with_reducible refine bdrew1 ?_)) hC (fun b g1 g2 => by have := L5_5_03.out b g1; have := N17 b g2; omega))
      have O17_6 := Lib.hid (Own.bchgR O16_6.out (by repeat (first | with_reducible exact Below.refl _ _ | with_reducible refine bal ?_ _ | with_reducible refine bdrew1 ?_)) hC (fun b g1 g2 => by have := L6_6.out b g1; have := N17 b g2; omega))
      have O17_7 := Lib.hid (Own.bchgR O16_7.out (by repeat (first | with_reducible exact Below.refl _ _ | with_reducible refine bal ?_ _ | with_reducible refine bdrew1 ?_)) hC (fun b g1 g2 => by have := L7_7.out b g1; have := N17 b g2; omega))
      have O17_8_03 := Lib.hid hO
      have O17_10 := Lib.hid (Own.bchgR O16_10.out (by repeat (first | with_reducible exact Below.refl _ _ | with_reducible refine bal ?_ _ | with_reducible refine bdrew1 ?_)) hC (fun b g1 g2 => by have := L10_10.out b g1; have := N17 b g2; omega))
      have O17_12 := Lib.hid (Own.bchgR O16_12.out (by repeat (first | with_reducible exact Below.refl _ _ | with_reducible refine bal ?_ _ | with_reducible refine bdrew1 ?_)) hC (fun b g1 g2 => by have := L12_12.out b g1; have := N17 b g2; omega))
      have B17 : Hid (Below w.heap.size w w17) := Lib.hid (Below.trans (by repeat (first | with_reducible exact B16.out | with_reducible refine bal ?_ _ | with_reducible refine bdrew1 ?_)) (hC.below (B := w.heap.size) (fun b g2 => by have := N17 b g2; omega) (by first | omega | (simp; omega))))
      clear O16_3 O16_4 O16_5_03 O16_6 O16_7 O16_8_03 O16_10 O16_12 K16_p0 K16_s6 K16_s8 K16_s10 B16 hC N17 c16_p00 c16_p01 c16_p02 c16_p03 y16_p0 c16_s60 c16_s61 c16_s62 c16_s63 y16_s6 c16_s80 c16_s81 c16_s82 c16_s83 y16_s8 c16_s100 c16_s101 c16_s102 c16_s103 y16_s10
      obtain ⟨c17_p00, c17_p01, c17_p02, c17_p03⟩ := blkc4 K17_p0.out
      have y17_p0 : w.heap.size < w17.heap.size := blklt K17_p0.out
      obtain ⟨c17_s60, c17_s61, c17_s62, c17_s63⟩ := blkc4 K17_s6.out
      have y17_s6 : w5.heap.size < w17.heap.size := blklt K17_s6.out
      obtain ⟨c17_s80, c17_s81, c17_s82, c17_s83⟩ := blkc4 K17_s8.out
      have y17_s8 : w6.heap.size < w17.heap.size := blklt K17_s8.out
      obtain ⟨c17_s100, c17_s101, c17_s102, c17_s103⟩ := blkc4 K17_s10.out
      have y17_s10 : w8.heap.size < w17.heap.size := blklt K17_s10.out
      have hk17 : (0 : Int) ≤ 1 + 5 * (R03.length : Int) := (by omega)
      have hq17 : ((1 + 5 * (R03.length : Int)) != (1 + 5 * (R03.length : Int))) = false := (by simp)
      go_wp2_with fail
      refine Calls.mono (heldFlagSum_any _ _ _ _ R03.length _ _ (O17_8_03.out.lst.below (by repeat (first | with_reducible exact Below.refl _ _ | with_reducible refine bal ?_ _ | with_reducible refine bdrew1 ?_))) (by omega) (by omega)) ?_
      rintro e0 w18 ⟨rfl, hb⟩
      have z18 : w17.heap.size + 0 ≤ w18.heap.size := (by have := hb.size; (try simp at this); omega)
      have K18_p0 : Hid (w18.heap[w.heap.size]? = some (.cells #[.int .i64 a0, .int .u32 a1, .int .i64 a2, .slice A_av3 ax3.length cap_av3] 58 (0, 0))) := Lib.hid ((hb.block _ (by first | omega | (simp <;> omega))).trans (by repeat (first | exact K17_p0.out | exact blknew _ _ | exact blknew' _ _ _ (by simp) | with_reducible refine blkal ?_ _ | with_reducible refine blkdrew ?_)))
      have K18_s6 : Hid (w18.heap[w5.heap.size]? = some (.cells #[.int .i64 r00, .int .u32 r01, .int .i64 r02, .slice A5_03 R03.length cap5_03] 28 (0, 0))) := Lib.hid ((hb.block _ (by first | omega | (simp <;> omega))).trans (by repeat (first | exact K17_s6.out | exact blknew _ _ | exact blknew' _ _ _ (by simp) | with_reducible refine blkal ?_ _ | with_reducible refine blkdrew ?_)))
      have K18_s8 : Hid (w18.heap[w6.heap.size]? = some (.cells #[.int .i64 a0, .int .u32 a1, .int .i64 a2, .slice A6 ax3.length cap6] 28 (0, 0))) := Lib.hid ((hb.block _ (by first | omega | (simp <;> omega))).trans (by repeat (first | exact K17_s8.out | exact blknew _ _ | exact blknew' _ _ _ (by simp) | with_reducible refine blkal ?_ _ | with_reducible refine blkdrew ?_)))
      have K18_s10 : Hid (w18.heap[w8.heap.size]? = some (.cells #[.int .i64 r00, .int .u32 r01, .int .i64 r02, .slice A8_03 R03.length cap8_03] 28 (0, 0))) := Lib.hid ((hb.block _ (by first | omega | (simp <;> omega))).trans (by repeat (first | exact K17_s10.out | exact blknew _ _ | exact blknew' _ _ _ (by simp) | with_reducible refine blkal ?_ _ | with_reducible refine blkdrew ?_)))
      have O18_3 := Lib.hid (O17_3.out.below (Nat.le_refl _) (bthen (by repeat (first | with_reducible exact Below.refl _ _ | with_reducible refine bal ?_ _ | with_reducible refine bdrew1 ?_)) hb))
      have O18_4 := Lib.hid (O17_4.out.below (Nat.le_refl _) (bthen (by repeat (first | with_reducible exact Below.refl _ _ | with_reducible refine bal ?_ _ | with_reducible refine bdrew1 ?_)) hb))
      have O18_5_03 := Lib.hid (O17_5_03.out.below (Nat.le_refl _) (bthen (by repeat (first | with_reducible exact Below.refl _ _ | with_reducible refine bal ?_ _ | with_reducible refine bdrew1 ?_)) hb))
      have O18_6 := Lib.hid (O17_6.out.below (Nat.le_refl _) (bthen (by repeat (first | with_reducible exact Below.refl _ _ | with_reducible refine bal ?_ _ | with_reducible refine bdrew1 ?_)) hb))
      have O18_7 := Lib.hid (O17_7.out.below (Nat.le_refl _) (bthen (by repeat (first | with_reducible exact Below.refl _ _ | with_reducible refine bal ?_ _ | with_reducible refine bdrew1 ?_)) hb))
      have O18_8_03 := Lib.hid (O17_8_03.out.below (Nat.le_refl _) (bthen (by repeat (first | with_reducible exact Below.refl _ _ | with_reducible refine bal ?_ _ | with_reducible refine bdrew1 ?_)) hb))
      have O18_10 := Lib.hid (O17_10.out.below (Nat.le_refl _) (bthen (by repeat (first | with_reducible exact Below.refl _ _ | with_reducible refine bal ?_ _ | with_reducible refine bdrew1 ?_)) hb))
      have O18_12 := Lib.hid (O17_12.out.below (Nat.le_refl _) (bthen (by repeat (first | with_reducible exact Below.refl _ _ | with_reducible refine bal ?_ _ | with_reducible refine bdrew1 ?_)) hb))
      have B18 : Hid (Below w.heap.size w w18) := Lib.hid (bthen (by repeat (first | with_reducible exact B17.out | with_reducible refine bal ?_ _ | with_reducible refine bdrew1 ?_)) hb)
      clear O17_3 O17_4 O17_5_03 O17_6 O17_7 O17_8_03 O17_10 O17_12 K17_p0 K17_s6 K17_s8 K17_s10 B17 hb c17_p00 c17_p01 c17_p02 c17_p03 y17_p0 c17_s60 c17_s61 c17_s62 c17_s63 y17_s6 c17_s80 c17_s81 c17_s82 c17_s83 y17_s8 c17_s100 c17_s101 c17_s102 c17_s103 y17_s10
      obtain ⟨c18_p00, c18_p01, c18_p02, c18_p03⟩ := blkc4 K18_p0.out
      have y18_p0 : w.heap.size < w18.heap.size := blklt K18_p0.out
      obtain ⟨c18_s60, c18_s61, c18_s62, c18_s63⟩ := blkc4 K18_s6.out
      have y18_s6 : w5.heap.size < w18.heap.size := blklt K18_s6.out
      obtain ⟨c18_s80, c18_s81, c18_s82, c18_s83⟩ := blkc4 K18_s8.out
      have y18_s8 : w6.heap.size < w18.heap.size := blklt K18_s8.out
      obtain ⟨c18_s100, c18_s101, c18_s102, c18_s103⟩ := blkc4 K18_s10.out
      have y18_s10 : w8.heap.size < w18.heap.size := blklt K18_s10.out
      go_wp2_with fail
      refine Calls.mono (toFlagSum_any _ _ _ _ ax3 _ (ah3.below (by repeat (first | with_reducible exact B18.out | with_reducible refine bal ?_ _ | with_reducible refine bdrew1 ?_))) (by omega)) ?_
      rintro e0 w19 ⟨A19, cap19, F19, rfl, hO, hb⟩
      have z19 : w18.heap.size + 0 ≤ w19.heap.size := (by have := hb.size; (try simp at this); omega)
      have K19_p0 : Hid (w19.heap[w.heap.size]? = some (.cells #[.int .i64 a0, .int .u32 a1, .int .i64 a2, .slice A_av3 ax3.length cap_av3] 58 (0, 0))) := Lib.hid ((hb.block _ (by first | omega | (simp <;> omega))).trans (by repeat (first | exact K18_p0.out | exact blknew _ _ | exact blknew' _ _ _ (by simp) | with_reducible refine blkal ?_ _ | with_reducible refine blkdrew ?_)))
      have K19_s6 : Hid (w19.heap[w5.heap.size]? = some (.cells #[.int .i64 r00, .int .u32 r01, .int .i64 r02, .slice A5_03 R03.length cap5_03] 28 (0, 0))) := Lib.hid ((hb.block _ (by first | omega | (simp <;> omega))).trans (by repeat (first | exact K18_s6.out | exact blknew _ _ | exact blknew' _ _ _ (by simp) | with_reducible refine blkal ?_ _ | with_reducible refine blkdrew ?_)))
      have K19_s8 : Hid (w19.heap[w6.heap.size]? = some (.cells #[.int .i64 a0, .int .u32 a1, .int .i64 a2, .slice A6 ax3.length cap6] 28 (0, 0))) := Lib.hid ((hb.block _ (by first | omega | (simp <;> omega))).trans (by repeat (first | exact K18_s8.out | exact blknew _ _ | exact blknew' _ _ _ (by simp) | with_reducible refine blkal ?_ _ | with_reducible refine blkdrew ?_)))
      have K19_s10 : Hid (w19.heap[w8.heap.size]? = some (.cells #[.int .i64 r00, .int .u32 r01, .int .i64 r02, .slice A8_03 R03.length cap8_03] 28 (0, 0))) := Lib.hid ((hb.block _ (by first | omega | (simp <;> omega))).trans (by repeat (first | exact K18_s10.out | exact blknew _ _ | exact blknew' _ _ _ (by simp) | with_reducible refine blkal ?_ _ | with_reducible refine blkdrew ?_)))
      have O19_3 := Lib.hid (O18_3.out.below (Nat.le_refl _) (bthen (by repeat (first | with_reducible exact Below.refl _ _ | with_reducible refine bal ?_ _ | with_reducible refine bdrew1 ?_)) hb))
      have O19_4 := Lib.hid (O18_4.out.below (Nat.le_refl _) (bthen (by repeat (first | with_reducible exact Below.refl _ _ | with_reducible refine bal ?_ _ | with_reducible refine bdrew1 ?_)) hb))
      have O19_5_03 := Lib.hid (O18_5_03.out.below (Nat.le_refl _) (bthen (by repeat (first | with_reducible exact Below.refl _ _ | with_reducible refine bal ?_ _ | with_reducible refine bdrew1 ?_)) hb))
      have O19_6 := Lib.hid (O18_6.out.below (Nat.le_refl _) (bthen (by repeat (first | with_reducible exact Below.refl _ _ | with_reducible refine bal ?_ _ | with_reducible refine bdrew1 ?_)) hb))
      have O19_7 := Lib.hid (O18_7.out.below (Nat.le_refl _) (bthen (by repeat (first | with_reducible exact Below.refl _ _ | with_reducible refine bal ?_ _ | with_reducible refine bdrew1 ?_)) hb))
      have O19_8_03 := Lib.hid (O18_8_03.out.below (Nat.le_refl _) (bthen (by repeat (first | with_reducible exact Below.refl _ _ | with_reducible refine bal ?_ _ | with_reducible refine bdrew1 ?_)) hb))
      have O19_10 := Lib.hid (O18_10.out.below (Nat.le_refl _) (bthen (by repeat (first | with_reducible exact Below.refl _ _ | with_reducible refine bal ?_ _ | with_reducible refine bdrew1 ?_)) hb))
      have O19_12 := Lib.hid (O18_12.out.below (Nat.le_refl _) (bthen (by repeat (first | with_reducible exact Below.refl _ _ | with_reducible refine bal ?_ _ | with_reducible refine bdrew1 ?_)) hb))
      have B19 : Hid (Below w.heap.size w w19) := Lib.hid (bthen (by repeat (first | with_reducible exact B18.out | with_reducible refine bal ?_ _ | with_reducible refine bdrew1 ?_)) hb)
      have L19_19 : Hid (∀ b ∈ F19, w18.heap.size + 0 ≤ b ∧ b < w19.heap.size) := Lib.hid (fun b hm => ⟨by have := hO.ge b hm; (try simp at this); omega, hO.lt b hm⟩)
      have O19_19 := Lib.hid hO
      clear O18_3 O18_4 O18_5_03 O18_6 O18_7 O18_8_03 O18_10 O18_12 K18_p0 K18_s6 K18_s8 K18_s10 hO B18 hb c18_p00 c18_p01 c18_p02 c18_p03 y18_p0 c18_s60 c18_s61 c18_s62 c18_s63 y18_s6 c18_s80 c18_s81 c18_s82 c18_s83 y18_s8 c18_s100 c18_s101 c18_s102 c18_s103 y18_s10
      obtain ⟨c19_p00, c19_p01, c19_p02, c19_p03⟩ := blkc4 K19_p0.out
      have y19_p0 : w.heap.size < w19.heap.size := blklt K19_p0.out
      obtain ⟨c19_s60, c19_s61, c19_s62, c19_s63⟩ := blkc4 K19_s6.out
      have y19_s6 : w5.heap.size < w19.heap.size := blklt K19_s6.out
      obtain ⟨c19_s80, c19_s81, c19_s82, c19_s83⟩ := blkc4 K19_s8.out
      have y19_s8 : w6.heap.size < w19.heap.size := blklt K19_s8.out
      obtain ⟨c19_s100, c19_s101, c19_s102, c19_s103⟩ := blkc4 K19_s10.out
      have y19_s10 : w8.heap.size < w19.heap.size := blklt K19_s10.out
      go_wp2_with fail
      refine Calls.mono (toGraphS_any _ bx0 _ (bh0.below (by repeat (first | with_reducible exact B19.out | with_reducible refine bal ?_ _ | with_reducible refine bdrew1 ?_))) (by omega)) ?_
      rintro e0 w20 ⟨A20, cap20, F20, rfl, hO, hb⟩
      have z20 : w19.heap.size + 0 ≤ w20.heap.size := (by have := hb.size; (try simp at this); omega)
      have K20_p0 : Hid (w20.heap[w.heap.size]? = some (.cells #[.int .i64 a0, .int .u32 a1, .int .i64 a2, .slice A_av3 ax3.length cap_av3] 58 (0, 0))) := Lib.hid ((hb.block _ (by first | omega | (simp <;> omega))).trans (by repeat (first | exact K19_p0.out | exact blknew _ _ | exact blknew' _ _ _ (by simp) | with_reducible refine blkal ?_ _ | with_reducible refine blkdrew ?_)))
      have K20_s6 : Hid (w20.heap[w5.heap.size]? = some (.cells #[.int .i64 r00, .int .u32 r01, .int .i64 r02, .slice A5_03 R03.length cap5_03] 28 (0, 0))) := Lib.hid ((hb.block _ (by first | omega | (simp <;> omega))).trans (by repeat (first | exact K19_s6.out | exact blknew _ _ | exact blknew' _ _ _ (by simp) | with_reducible refine blkal ?_ _ | with_reducible refine blkdrew ?_)))
      have K20_s8 : Hid (w20.heap[w6.heap.size]? = some (.cells #[.int .i64 a0, .int .u32 a1, .int .i64 a2, .slice A6 ax3.length cap6] 28 (0, 0))) := Lib.hid ((hb.block _ (by first | omega | (simp <;> omega))).trans (by repeat (first | exact K19_s8.out | exact blknew _ _ | exact blknew' _ _ _ (by simp) | with_reducible refine blkal ?_ _ | with_reducible refine blkdrew ?_)))
      have K20_s10 : Hid (w20.heap[w8.heap.size]? = some (.cells #[.int .i64 r00, .int .u32 r01, .int .i64 r02, .slice A8_03 R03.length cap8_03] 28 (0, 0))) := Lib.hid ((hb.block _ (by first | omega | (simp <;> omega))).trans (by repeat (first | exact K19_s10.out | exact blknew _ _ | exact blknew' _ _ _ (by simp) | with_reducible refine blkal ?_ _ | with_reducible refine blkdrew ?_)))
      have O20_3 := Lib.hid (O19_3.out.below (Nat.le_refl _) (bthen (by repeat (first | with_reducible exact Below.refl _ _ | with_reducible refine bal ?_ _ | with_reducible refine bdrew1 ?_)) hb))
      have O20_4 := Lib.hid (O19_4.out.below (Nat.le_refl _) (bthen (by repeat (first | with_reducible exact Below.refl _ _ | with_reducible refine bal ?_ _ | with_reducible refine bdrew1 ?_)) hb))
      have O20_5_03 := Lib.hid (O19_5_03.out.below (Nat.le_refl _) (bthen (by repeat (first | with_reducible exact Below.refl _ _ | with_reducible refine bal ?_ _ | with_reducible refine bdrew1 ?_)) hb))
      have O20_6 := Lib.hid (O19_6.out.below (Nat.le_refl _) (bthen (by repeat (first | with_reducible exact Below.refl _ _ | with_reducible refine bal ?_ _ | with_reducible refine bdrew1 ?_)) hb))
      have O20_7 := Lib.hid (O19_7.out.below (Nat.le_refl _) (bthen (by repeat (first | with_reducible exact Below.refl _ _ | with_reducible refine bal ?_ _ | with_reducible refine bdrew1 ?_)) hb))
      have O20_8_03 := Lib.hid (O19_8_03.out.below (Nat.le_refl _) (bthen (by repeat (first | with_reducible exact Below.refl _ _ | with_reducible refine bal ?_ _ | with_reducible refine bdrew1 ?_)) hb))
      have O20_10 := Lib.hid (O19_10.out.below (Nat.le_refl _) (bthen (by repeat (first | with_reducible exact Below.refl _ _ | with_reducible refine bal ?_ _ | with_reducible refine bdrew1 ?_)) hb))
      have O20_12 := Lib.hid (O19_12.out.below (Nat.le_refl _) (bthen (by repeat (first | with_reducible exact Below.refl _ _ | with_reducible refine bal ?_ _ | with_reducible refine bdrew1 ?_)) hb))
      have O20_19 := Lib.hid (O19_19.out.below (Nat.le_refl _) (bthen (by repeat (first | with_reducible exact Below.refl _ _ | with_reducible refine bal ?_ _ | with_reducible refine bdrew1 ?_)) hb))
      have B20 : Hid (Below w.heap.size w w20) := Lib.hid (bthen (by repeat (first | with_reducible exact B19.out | with_reducible refine bal ?_ _ | with_reducible refine bdrew1 ?_)) hb)
      have L20_20 : Hid (∀ b ∈ F20, w19.heap.size + 0 ≤ b ∧ b < w20.heap.size) := Lib.hid (fun b hm => ⟨by have := hO.ge b hm; (try simp at this); omega, hO.lt b hm⟩)
      have O20_20 := Lib.hid hO
      clear O19_3 O19_4 O19_5_03 O19_6 O19_7 O19_8_03 O19_10 O19_12 O19_19 K19_p0 K19_s6 K19_s8 K19_s10 hO B19 hb c19_p00 c19_p01 c19_p02 c19_p03 y19_p0 c19_s60 c19_s61 c19_s62 c19_s63 y19_s6 c19_s80 c19_s81 c19_s82 c19_s83 y19_s8 c19_s100 c19_s101 c19_s102 c19_s103 y19_s10
      obtain ⟨c20_p00, c20_p01, c20_p02, c20_p03⟩ := blkc4 K20_p0.out
      have y20_p0 : w.heap.size < w20.heap.size := blklt K20_p0.out
      obtain ⟨c20_s60, c20_s61, c20_s62, c20_s63⟩ := blkc4 K20_s6.out
      have y20_s6 : w5.heap.size < w20.heap.size := blklt K20_s6.out
      obtain ⟨c20_s80, c20_s81, c20_s82, c20_s83⟩ := blkc4 K20_s8.out
      have y20_s8 : w6.heap.size < w20.heap.size := blklt K20_s8.out
      obtain ⟨c20_s100, c20_s101, c20_s102, c20_s103⟩ := blkc4 K20_s10.out
      have y20_s10 : w8.heap.size < w20.heap.size := blklt K20_s10.out
      go_wp2_with fail
      refine Calls.mono (HI.out _ _ _ (O20_19.out.lst.below (by repeat (first | with_reducible exact Below.refl _ _ | with_reducible refine bal ?_ _ | with_reducible refine bdrew1 ?_))) (O20_20.out.lst.below (by repeat (first | with_reducible exact Below.refl _ _ | with_reducible refine bal ?_ _ | with_reducible refine bdrew1 ?_))) (by omega) (by omega)) ?_
      rintro e0 w21 ⟨A21_03, cap21_03, F21_03, rfl, hO_03, hb⟩
      have z21 : w20.heap.size + 0 ≤ w21.heap.size := (by have := hb.size; (try simp at this); omega)
      have K21_p0 : Hid (w21.heap[w.heap.size]? = some (.cells #[.int .i64 a0, .int .u32 a1, .int .i64 a2, .slice A_av3 ax3.length cap_av3] 58 (0, 0))) := Lib.hid ((hb.block _ (by first | omega | (simp <;> omega))).trans (by repeat (first | exact K20_p0.out | exact blknew _ _ | exact blknew' _ _ _ (by simp) | with_reducible refine blkal ?_ _ | with_reducible refine blkdrew ?_)))
      have K21_s6 : Hid (w21.heap[w5.heap.size]? = some (.cells #[.int .i64 r00, .int .u32 r01, .int .i64 r02, .slice A5_03 R03.length cap5_03] 28 (0, 0))) := Lib.hid ((hb.block _ (by first | omega | (simp <;> omega))).trans (by repeat (first | exact K20_s6.out | exact blknew _ _ | exact blknew' _ _ _ (by simp) | with_reducible refine blkal ?_ _ | with_reducible refine blkdrew ?_)))
      have K21_s8 : Hid (w21.heap[w6.heap.size]? = some (.cells #[.int .i64 a0, .int .u32 a1, .int .i64 a2, .slice A6 ax3.length cap6] 28 (0, 0))) := Lib.hid ((hb.block _ (by first | omega | (simp <;> omega))).trans (by repeat (first | exact K20_s8.out | exact blknew _ _ | exact blknew' _ _ _ (by simp) | with_reducible refine blkal ?_ _ | with_reducible refine blkdrew ?_)))
      have K21_s10 : Hid (w21.heap[w8.heap.size]? = some (.cells #[.int .i64 r00, .int .u32 r01, .int .i64 r02, .slice A8_03 R03.length cap8_03] 28 (0, 0))) := Lib.hid ((hb.block _ (by first | omega | (simp <;> omega))).trans (by repeat (first | exact K20_s10.out | exact blknew _ _ | exact blknew' _ _ _ (by simp) | with_reducible refine blkal ?_ _ | with_reducible refine blkdrew ?_)))
      have O21_3 := Lib.hid (O20_3.out.below (Nat.le_refl _) (bthen (by repeat (first | with_reducible exact Below.refl _ _ | with_reducible refine bal ?_ _ | with_reducible refine bdrew1 ?_)) hb))
      have O21_4 := Lib.hid (O20_4.out.below (Nat.le_refl _) (bthen (by repeat (first | with_reducible exact Below.refl _ _ | with_reducible refine bal ?_ _ | with_reducible refine bdrew1 ?_)) hb))
      have O21_5_03 := Lib.hid (O20_5_03.out.below (Nat.le_refl _) (bthen (by repeat (first | with_reducible exact Below.refl _ _ | with_reducible refine bal ?_ _ | with_reducible refine bdrew1 ?_)) hb))
      have O21_6 := Lib.hid (O20_6.out.below (Nat.le_refl _) (bthen (by repeat (first | with_reducible exact Below.refl _ _ | with_reducible refine bal ?_ _ | with_reducible refine bdrew1 ?_)) hb))
      have O21_7 := Lib.hid (O20_7.out.below (Nat.le_refl _) (bthen (by repeat (first | with_reducible exact Below.refl _ _ | with_reducible refine bal ?_ _ | with_reducible refine bdrew1 ?_)) hb))
      have O21_8_03 := Lib.hid (O20_8_03.out.below (Nat.le_refl _) (bthen (by repeat (first | with_reducible exact Below.refl _ _ | with_reducible refine bal ?_ _ | with_reducible refine bdrew1 ?_)) hb))
      have O21_10 := Lib.hid (O20_10.out.below (Nat.le_refl _) (bthen (by repeat (first | with_reducible exact Below.refl _ _ | with_reducible refine bal ?_ _ | with_reducible refine bdrew1 ?_)) hb))
      have O21_12 := Lib.hid (O20_12.out.below (Nat.le_refl _) (bthen (by repeat (first | with_reducible exact Below.refl _ _ | with_reducible refine bal ?_ _ | with_reducible refine bdrew1 ?_)) hb))
      have O21_19 := Lib.hid (O20_19.out.below (Nat.le_refl _) (bthen (by repeat (first | with_reducible exact Below.refl _ _ | with_reducible refine bal ?_ _ | with_reducible refine bdrew1 ?_)) hb))
      have O21_20 := Lib.hid (O20_20.out.below (Nat.le_refl _) (bthen (by repeat (first | with_reducible exact Below.refl _ _ | with_reducible refine bal ?_ _ | with_reducible refine bdrew1 ?_)) hb))
      have B21 : Hid (Below w.heap.size w w21) := Lib.hid (bthen (by repeat (first | with_reducible exact B20.out | with_reducible refine bal ?_ _ | with_reducible refine bdrew1 ?_)) hb)
      have L21_21_03 : Hid (∀ b ∈ F21_03, w20.heap.size + 0 ≤ b ∧ b < w21.heap.size) := Lib.hid (fun b hm => ⟨by have := hO_03.ge b hm; (try simp at this); omega, hO_03.lt b hm⟩)
      have O21_21_03 := Lib.hid hO_03
      clear O20_3 O20_4 O20_5_03 O20_6 O20_7 O20_8_03 O20_10 O20_12 O20_19 O20_20 K20_p0 K20_s6 K20_s8 K20_s10 hO_03 B20 hb c20_p00 c20_p01 c20_p02 c20_p03 y20_p0 c20_s60 c20_s61 c20_s62 c20_s63 y20_s6 c20_s80 c20_s81 c20_s82 c20_s83 y20_s8 c20_s100 c20_s101 c20_s102 c20_s103 y20_s10
      obtain ⟨c21_p00, c21_p01, c21_p02, c21_p03⟩ := blkc4 K21_p0.out
      have y21_p0 : w.heap.size < w21.heap.size := blklt K21_p0.out
      obtain ⟨c21_s60, c21_s61, c21_s62, c21_s63⟩ := blkc4 K21_s6.out
      have y21_s6 : w5.heap.size < w21.heap.size := blklt K21_s6.out
      obtain ⟨c21_s80, c21_s81, c21_s82, c21_s83⟩ := blkc4 K21_s8.out
      have y21_s8 : w6.heap.size < w21.heap.size := blklt K21_s8.out
      obtain ⟨c21_s100, c21_s101, c21_s102, c21_s103⟩ := blkc4 K21_s10.out
      have y21_s10 : w8.heap.size < w21.heap.size := blklt K21_s10.out
      go_wp2_with fail
      refine Calls.mono (eqFlagSum_same _ _ _ _ R03 _ _ (O21_21_03.out.lst.below (by repeat (first | with_reducible exact Below.refl _ _ | with_reducible refine bal ?_ _ | with_reducible refine bdrew1 ?_))) (O21_5_03.out.lst.below (by repeat (first | with_reducible exact Below.refl _ _ | with_reducible refine bal ?_ _ | with_reducible refine bdrew1 ?_))) (by omega)) ?_
      rintro e0 w22 ⟨rfl, hb⟩
      have z22 : w21.heap.size + 1 ≤ w22.heap.size := (by have := hb.size; (try simp at this); omega)
      have K22_p0 : Hid (w22.heap[w.heap.size]? = some (.cells #[.int .i64 a0, .int .u32 a1, .int .i64 a2, .slice A_av3 ax3.length cap_av3] 58 (0, 0))) := Lib.hid ((hb.block _ (by first | omega | (simp <;> omega))).trans (by repeat (first | exact K21_p0.out | exact blknew _ _ | exact blknew' _ _ _ (by simp) | with_reducible refine blkal ?_ _ | with_reducible refine blkdrew ?_)))
      have K22_s6 : Hid (w22.heap[w5.heap.size]? = some (.cells #[.int .i64 r00, .int .u32 r01, .int .i64 r02, .slice A5_03 R03.length cap5_03] 28 (0, 0))) := Lib.hid ((hb.block _ (by first | omega | (simp <;> omega))).trans (by repeat (first | exact K21_s6.out | exact blknew _ _ | exact blknew' _ _ _ (by simp) | with_reducible refine blkal ?_ _ | with_reducible refine blkdrew ?_)))
      have K22_s8 : Hid (w22.heap[w6.heap.size]? = some (.cells #[.int .i64 a0, .int .u32 a1, .int .i64 a2, .slice A6 ax3.length cap6] 28 (0, 0))) := Lib.hid ((hb.block _ (by first | omega | (simp <;> omega))).trans (by repeat (first | exact K21_s8.out | exact blknew _ _ | exact blknew' _ _ _ (by simp) | with_reducible refine blkal ?_ _ | with_reducible refine blkdrew ?_)))
      have K22_s10 : Hid (w22.heap[w8.heap.size]? = some (.cells #[.int .i64 r00, .int .u32 r01, .int .i64 r02, .slice A8_03 R03.length cap8_03] 28 (0, 0))) := Lib.hid ((hb.block _ (by first | omega | (simp <;> omega))).trans (by repeat (first | exact K21_s10.out | exact blknew _ _ | exact blknew' _ _ _ (by simp) | with_reducible refine blkal ?_ _ | with_reducible refine blkdrew ?_)))
      have K22_s15 : Hid (w22.heap[w21.heap.size]? = some (.cells #[.int .i64 r00, .int .u32 r01, .int .i64 r02, .slice A21_03 R03.length cap21_03] 28 (0, 0))) := Lib.hid ((hb.block _ (by first | omega | (simp <;> omega))).trans (by repeat (first | exact blknew _ _ | exact blknew' _ _ _ (by simp) | with_reducible refine blkal ?_ _ | with_reducible refine blkdrew ?_)))
      have O22_3 := Lib.hid (O21_3.out.below (Nat.le_refl _) (bthen (by repeat (first | with_reducible exact Below.refl _ _ | with_reducible refine bal ?_ _ | with_reducible refine bdrew1 ?_)) hb))
      have O22_4 := Lib.hid (O21_4.out.below (Nat.le_refl _) (bthen (by repeat (first | with_reducible exact Below.refl _ _ | with_reducible refine bal ?_ _ | with_reducible refine bdrew1 ?_)) hb))
      have O22_5_03 := Lib.hid (O21_5_03.out.below (Nat.le_refl _) (bthen (by repeat (first | with_reducible exact Below.refl _ _ | with_reducible refine bal ?_ _ | with_reducible refine bdrew1 ?_)) hb))
      have O22_6 := Lib.hid (O21_6.out.below (Nat.le_refl _) (bthen (by repeat (first | with_reducible exact Below.refl _ _ | with_reducible refine bal ?_ _ | with_reducible refine bdrew1 ?_)) hb))
      have O22_7 := Lib.hid (O21_7.out.below (Nat.le_refl _) (bthen (by repeat (first | with_reducible exact Below.refl _ _ | with_reducible refine bal ?_ _ | with_reducible refine bdrew1 ?_)) hb))
      have O22_8_03 := Lib.hid (O21_8_03.out.below (Nat.le_refl _) (bthen (by repeat (first | with_reducible exact Below.refl _ _ | with_reducible refine bal ?_ _ | with_reducible refine bdrew1 ?_)) hb))
      have O22_10 := Lib.hid (O21_10.out.below (Nat.le_refl _) (bthen (by repeat (first | with_reducible exact Below.refl _ _ | with_reducible refine bal ?_ _ | with_reducible refine bdrew1 ?_)) hb))
      have O22_12 := Lib.hid (O21_12.out.below (Nat.le_refl _) (bthen (by repeat (first | with_reducible exact Below.refl _ _ | with_reducible refine bal ?_ _ | with_reducible refine bdrew1 ?_)) hb))
      have O22_19 := Lib.hid (O21_19.out.below (Nat.le_refl _) (bthen (by repeat (first | with_reducible exact Below.refl _ _ | with_reducible refine bal ?_ _ | with_reducible refine bdrew1 ?_)) hb))
      have O22_20 := Lib.hid (O21_20.out.below (Nat.le_refl _) (bthen (by repeat (first | with_reducible exact Below.refl _ _ | with_reducible refine bal ?_ _ | with_reducible refine bdrew1 ?_)) hb))
      have O22_21_03 := Lib.hid (O21_21_03.out.below (Nat.le_refl _) (bthen (by repeat (first | with_reducible exact Below.refl _ _ | with_reducible refine bal ?_ _ | with_reducible refine bdrew1 ?_)) hb))
      have B22 : Hid (Below w.heap.size w w22) := Lib.hid (bthen (by repeat (first | with_reducible exact B21.out | with_reducible refine bal ?_ _ | with_reducible refine bdrew1 ?_)) hb)
      clear O21_3 O21_4 O21_5_03 O21_6 O21_7 O21_8_03 O21_10 O21_12 O21_19 O21_20 O21_21_03 K21_p0 K21_s6 K21_s8 K21_s10 B21 hb c21_p00 c21_p01 c21_p02 c21_p03 y21_p0 c21_s60 c21_s61 c21_s62 c21_s63 y21_s6 c21_s80 c21_s81 c21_s82 c21_s83 y21_s8 c21_s100 c21_s101 c21_s102 c21_s103 y21_s10
      obtain ⟨c22_p00, c22_p01, c22_p02, c22_p03⟩ := blkc4 K22_p0.out
      have y22_p0 : w.heap.size < w22.heap.size := blklt K22_p0.out
      obtain ⟨c22_s60, c22_s61, c22_s62, c22_s63⟩ := blkc4 K22_s6.out
      have y22_s6 : w5.heap.size < w22.heap.size := blklt K22_s6.out
      obtain ⟨c22_s80, c22_s81, c22_s82, c22_s83⟩ := blkc4 K22_s8.out
      have y22_s8 : w6.heap.size < w22.heap.size := blklt K22_s8.out
      obtain ⟨c22_s100, c22_s101, c22_s102, c22_s103⟩ := blkc4 K22_s10.out
      have y22_s10 : w8.heap.size < w22.heap.size := blklt K22_s10.out
      obtain ⟨c22_s150, c22_s151, c22_s152, c22_s153⟩ := blkc4 K22_s15.out
      have y22_s15 : w21.heap.size < w22.heap.size := blklt K22_s15.out
      go_wp2_with fail
      refine Calls.mono (heldFlagSum_any _ _ _ _ R03.length _ _ (O22_8_03.out.lst.below (by repeat (first | with_reducible exact Below.refl _ _ | with_reducible refine bal ?_ _ | with_reducible refine bdrew1 ?_))) (by omega) (by omega)) ?_
      rintro e0 w23 ⟨rfl, hb⟩
      have z23 : w22.heap.size + 0 ≤ w23.heap.size := (by have := hb.size; (try simp at this); omega)
      have K23_p0 : Hid (w23.heap[w.heap.size]? = some (.cells #[.int .i64 a0, .int .u32 a1, .int .i64 a2, .slice A_av3 ax3.length cap_av3] 58 (0, 0))) := Lib.hid ((hb.block _ (by first | omega | (simp <;> omega))).trans (by repeat (first | exact K22_p0.out | exact blknew _ _ | exact blknew' _ _ _ (by simp) | with_reducible refine blkal ?_ _ | with_reducible refine blkdrew ?_)))
      have K23_s6 : Hid (w23.heap[w5.heap.size]? = some (.cells #[.int .i64 r00, .int .u32 r01, .int .i64 r02, .slice A5_03 R03.length cap5_03] 28 (0, 0))) := Lib.hid ((hb.block _ (by first | omega | (simp <;> omega))).trans (by repeat (first | exact K22_s6.out | exact blknew _ _ | exact blknew' _ _ _ (by simp) | with_reducible refine blkal ?_ _ | with_reducible refine blkdrew ?_)))
      have K23_s8 : Hid (w23.heap[w6.heap.size]? = some (.cells #[.int .i64 a0, .int .u32 a1, .int .i64 a2, .slice A6 ax3.length cap6] 28 (0, 0))) := Lib.hid ((hb.block _ (by first | omega | (simp <;> omega))).trans (by repeat (first | exact K22_s8.out | exact blknew _ _ | exact blknew' _ _ _ (by simp) | with_reducible refine blkal ?_ _ | with_reducible refine blkdrew ?_)))
      have K23_s10 : Hid (w23.heap[w8.heap.size]? = some (.cells #[.int .i64 r00, .int .u32 r01, .int .i64 r02, .slice A8_03 R03.length cap8_03] 28 (0, 0))) := Lib.hid ((hb.block _ (by first | omega | (simp <;> omega))).trans (by repeat (first | exact K22_s10.out | exact blknew _ _ | exact blknew' _ _ _ (by simp) | with_reducible refine blkal ?_ _ | with_reducible refine blkdrew ?_)))
      have K23_s15 : Hid (w23.heap[w21.heap.size]? = some (.cells #[.int .i64 r00, .int .u32 r01, .int .i64 r02, .slice A21_03 R03.length cap21_03] 28 (0, 0))) := Lib.hid ((hb.block _ (by first | omega | (simp <;> omega))).trans (by repeat (first | exact K22_s15.out | exact blknew _ _ | exact blknew' _ _ _ (by simp) | with_reducible refine blkal ?_ _ | with_reducible refine blkdrew ?_)))
      have O23_3 := Lib.hid (O22_3.out.below (Nat.le_refl _) (bthen (by repeat (first | with_reducible exact Below.refl _ _ | with_reducible refine bal ?_ _ | with_reducible refine bdrew1 ?_)) hb))
      have O23_4 := Lib.hid (O22_4.out.below (Nat.le_refl _) (bthen (by repeat (first | with_reducible exact Below.refl _ _ | with_reducible refine bal ?_ _ | with_reducible refine bdrew1 ?_)) hb))
      have O23_5_03 := Lib.hid (O22_5_03.out.below (Nat.le_refl _) (bthen (by repeat (first | with_reducible exact Below.refl _ _ | with_reducible refine bal ?_ _ | with_reducible refine bdrew1 ?_)) hb))
      have O23_6 := Lib.hid (O22_6.out.below (Nat.le_refl _) (bthen (by repeat (first | with_reducible exact Below.refl _ _ | with_reducible refine bal ?_ _ | with_reducible refine bdrew1 ?_)) hb))
      have O23_7 := Lib.hid (O22_7.out.below (Nat.le_refl _) (bthen (by repeat (first | with_reducible exact Below.refl _ _ | with_reducible refine bal ?_ _ | with_reducible refine bdrew1 ?_)) hb))
      have O23_8_03 := Lib.hid (O22_8_03.out.below (Nat.le_refl _) (bthen (by repeat (first | with_reducible exact Below.refl _ _ | with_reducible refine bal ?_ _ | with_reducible refine bdrew1 ?_)) hb))
      have O23_10 := Lib.hid (O22_10.out.below (Nat.le_refl _) (bthen (by repeat (first | with_reducible exact Below.refl _ _ | with_reducible refine bal ?_ _ | with_reducible refine bdrew1 ?_)) hb))
      have O23_12 := Lib.hid (O22_12.out.below (Nat.le_refl _) (bthen (by repeat (first | with_reducible exact Below.refl _ _ | with_reducible refine bal ?_ _ | with_reducible refine bdrew1 ?_)) hb))
      have O23_19 := Lib.hid (O22_19.out.below (Nat.le_refl _) (bthen (by repeat (first | with_reducible exact Below.refl _ _ | with_reducible refine bal ?_ _ | with_reducible refine bdrew1 ?_)) hb))
      have O23_20 := Lib.hid (O22_20.out.below (Nat.le_refl _) (bthen (by repeat (first | with_reducible exact Below.refl _ _ | with_reducible refine bal ?_ _ | with_reducible refine bdrew1 ?_)) hb))
      have O23_21_03 := Lib.hid (O22_21_03.out.below (Nat.le_refl _) (bthen (by repeat (first | with_reducible exact Below.refl _ _ | with_reducible refine bal ?_ _ | with_reducible refine bdrew1 ?_)) hb))
      have B23 : Hid (Below w.heap.size w w23) := Lib.hid (bthen (by repeat (first | with_reducible exact B22.out | with_reducible refine bal ?_ _ | with_reducible refine bdrew1 ?_)) hb)
      clear O22_3 O22_4 O22_5_03 O22_6 O22_7 O22_8_03 O22_10 O22_12 O22_19 O22_20 O22_21_03 K22_p0 K22_s6 K22_s8 K22_s10 K22_s15 B22 hb c22_p00 c22_p01 c22_p02 c22_p03 y22_p0 c22_s60 c22_s61 c22_s62 c22_s63 y22_s6 c22_s80 c22_s81 c22_s82 c22_s83 y22_s8 c22_s100 c22_s101 c22_s102 c22_s103 y22_s10 c22_s150 c22_s151 c22_s152 c22_s153 y22_s15
      obtain ⟨c23_p00, c23_p01, c23_p02, c23_p03⟩ := blkc4 K23_p0.out
      have y23_p0 : w.heap.size < w23.heap.size := blklt K23_p0.out
      obtain ⟨c23_s60, c23_s61, c23_s62, c23_s63⟩ := blkc4 K23_s6.out
      have y23_s6 : w5.heap.size < w23.heap.size := blklt K23_s6.out
      obtain ⟨c23_s80, c23_s81, c23_s82, c23_s83⟩ := blkc4 K23_s8.out
      have y23_s8 : w6.heap.size < w23.heap.size := blklt K23_s8.out
      obtain ⟨c23_s100, c23_s101, c23_s102, c23_s103⟩ := blkc4 K23_s10.out
      have y23_s10 : w8.heap.size < w23.heap.size := blklt K23_s10.out
      obtain ⟨c23_s150, c23_s151, c23_s152, c23_s153⟩ := blkc4 K23_s15.out
      have y23_s15 : w21.heap.size < w23.heap.size := blklt K23_s15.out
      go_wp2_with fail
      exact bodyPost_ret (v := .bool true) (by simp [results, Try.results8, go_sem]) rfl ⟨rfl, (by first | exact B23.out | exact bal B23.out _ | exact bal (bal B23.out _) _)⟩
end Go.Proofs.Ytfdobpeekipafaa

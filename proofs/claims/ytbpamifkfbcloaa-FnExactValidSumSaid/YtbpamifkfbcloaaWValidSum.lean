/- The walk of FnExactValidSum, with what both sides return as hypotheses. -/
import Derived.Test.YtbpamifkfbcloaaLaw
import Derived.Test.YtbpamifkfbcloaaRg
import Derived.Test.YtbpamifkfbcloaaRt
import Derived.Test.YtbpamifkfbcloaaTSum
namespace Go.Proofs.Ytbpamifkfbcloaa
open Go.ChangeShapes Go.WideShapes Go.ChangeAt Go.RowKit
set_option linter.unusedVariables false
set_option linter.unusedSimpArgs false
attribute [local irreducible] Calls
set_option maxHeartbeats 4000000 in
set_option maxRecDepth 100000 in
theorem walkValidSum (a0 : Int) (a1 : Int) (a2 : Int) (ax3 : List ((Int × (Int × Int)) × (Int × Int))) (av3 : Value) (r00 : Bool) (HI0 : ∀ (W : World) (u0 : Value), Lst shTerm W ax3 u0 → ax3.length ≤ 1048576 → Calls Try.prog 22 #[.agg #[.int .i64 a0, .int .u32 a1, .int .i64 a2, u0]] W fun e W' => e = .returned (.bool r00) ∧ Below W.heap.size W W') (HS0 : ∀ (W : World) (u0 : Value), Lst shTerm W ax3 u0 → ax3.length ≤ 1048576 → Calls Try.prog 20 #[.agg #[.int .i64 a0, .int .u32 a1, .int .i64 a2, u0]] W fun e W' => e = .returned (.bool r00) ∧ Below W.heap.size W W') (w : World) (ah3 : Lst shTerm w ax3 av3) :
    Calls Try.prog 5 #[.agg #[.int .i64 a0, .int .u32 a1, .int .i64 a2, av3]] w fun e0 w' => e0 = .returned (.bool true) ∧ Below w.heap.size w w' := by
  obtain ⟨A_av3, cap_av3, rfl, fax3⟩ := formTerm ah3
  have HI := Lib.hid HI0
  have HS := Lib.hid HS0
  clear HI0 HS0
  have qr00 : (r00 != r00) = false := by simp
  have d0 := szI_bd (left := 1048576) (n := ax3.length) (by omega) (by omega) (by omega)
  by_cases g0 : szI (1048576) ax3.length < 0
  · go_enter Try.func5, Try.ntmps5
    go_wp2_with fail
    refine Calls.mono (szFlagSum_any _ _ _ _ ax3 _ _ (ah3.below (by (try with_reducible refine bsz ?_); repeat (first | with_reducible exact Below.refl _ _ | ((with_reducible refine bpre ?_); (try simp only [Array.append_assoc]); repeat (first | with_reducible exact Pre.refl _ | with_reducible exact Pre.base _ _ | with_reducible refine Pre.cons _ ?_)) | with_reducible assumption | ((with_reducible refine bsetr ?_); rfl) | with_reducible refine Below.setCell ?_ (by simp <;> omega) _ | with_reducible refine bpl ?_ _ _ | with_reducible refine bal ?_ _ | with_reducible refine bdrew1 ?_ | with_reducible refine bdrew ?_ _))) (by omega) (by omega)) ?_
    rintro e0 w1 ⟨rfl, hb⟩
    have z1 : w.heap.size + 1 ≤ w1.heap.size := (by have := hb.size; (try simp at this); omega)
    have K1_p0 : Hid (w1.heap[w.heap.size]? = some (.cells #[.int .i64 a0, .int .u32 a1, .int .i64 a2, .slice A_av3 ax3.length cap_av3] 54 (0, 0))) := Lib.hid ((hb.block _ (by first | omega | (simp <;> omega))).trans (by repeat (first | exact blknew _ _ | exact blknew' _ _ _ (by simp) | with_reducible refine blkal ?_ _)))
    have B1 : Hid (Below w.heap.size w w1) := Lib.hid (bthen (by (try with_reducible refine bsz ?_); repeat (first | with_reducible exact Below.refl _ _ | ((with_reducible refine bpre ?_); (try simp only [Array.append_assoc]); repeat (first | with_reducible exact Pre.refl _ | with_reducible exact Pre.base _ _ | with_reducible refine Pre.cons _ ?_)) | with_reducible assumption | ((with_reducible refine bsetr ?_); rfl) | with_reducible refine Below.setCell ?_ (by simp <;> omega) _ | with_reducible refine bpl ?_ _ _ | with_reducible refine bal ?_ _ | with_reducible refine bdrew1 ?_ | with_reducible refine bdrew ?_ _)) hb)
    clear hb
    obtain ⟨c1_p00, c1_p01, c1_p02, c1_p03⟩ := blkc4 K1_p0.out
    have y1_p0 : w.heap.size < w1.heap.size := blklt K1_p0.out
    go_wp2_with fail
    exact bodyPost_ret (v := .bool true) (by simp [results, Try.results5, go_sem]) rfl ⟨rfl, (by first | exact B1.out | exact bal B1.out _ | exact bal (bal B1.out _) _)⟩
  · have lax3 : ax3.length ≤ 1048576 := (by have := szI_pos g0; omega)
    go_enter Try.func5, Try.ntmps5
    go_wp2_with fail
    refine Calls.mono (szFlagSum_any _ _ _ _ ax3 _ _ (ah3.below (by (try with_reducible refine bsz ?_); repeat (first | with_reducible exact Below.refl _ _ | ((with_reducible refine bpre ?_); (try simp only [Array.append_assoc]); repeat (first | with_reducible exact Pre.refl _ | with_reducible exact Pre.base _ _ | with_reducible refine Pre.cons _ ?_)) | with_reducible assumption | ((with_reducible refine bsetr ?_); rfl) | with_reducible refine Below.setCell ?_ (by simp <;> omega) _ | with_reducible refine bpl ?_ _ _ | with_reducible refine bal ?_ _ | with_reducible refine bdrew1 ?_ | with_reducible refine bdrew ?_ _))) (by omega) (by omega)) ?_
    rintro e0 w1 ⟨rfl, hb⟩
    have z1 : w.heap.size + 1 ≤ w1.heap.size := (by have := hb.size; (try simp at this); omega)
    have K1_p0 : Hid (w1.heap[w.heap.size]? = some (.cells #[.int .i64 a0, .int .u32 a1, .int .i64 a2, .slice A_av3 ax3.length cap_av3] 54 (0, 0))) := Lib.hid ((hb.block _ (by first | omega | (simp <;> omega))).trans (by repeat (first | exact blknew _ _ | exact blknew' _ _ _ (by simp) | with_reducible refine blkal ?_ _)))
    have B1 : Hid (Below w.heap.size w w1) := Lib.hid (bthen (by (try with_reducible refine bsz ?_); repeat (first | with_reducible exact Below.refl _ _ | ((with_reducible refine bpre ?_); (try simp only [Array.append_assoc]); repeat (first | with_reducible exact Pre.refl _ | with_reducible exact Pre.base _ _ | with_reducible refine Pre.cons _ ?_)) | with_reducible assumption | ((with_reducible refine bsetr ?_); rfl) | with_reducible refine Below.setCell ?_ (by simp <;> omega) _ | with_reducible refine bpl ?_ _ _ | with_reducible refine bal ?_ _ | with_reducible refine bdrew1 ?_ | with_reducible refine bdrew ?_ _)) hb)
    clear hb
    obtain ⟨c1_p00, c1_p01, c1_p02, c1_p03⟩ := blkc4 K1_p0.out
    have y1_p0 : w.heap.size < w1.heap.size := blklt K1_p0.out
    go_wp2_with fail
    refine Calls.mono (toFlagSum_any _ _ _ _ ax3 _ (ah3.below (by repeat (first | with_reducible exact B1.out | with_reducible refine bal ?_ _ | with_reducible refine bdrew1 ?_))) (by omega)) ?_
    rintro e0 w2 ⟨A2, cap2, F2, rfl, hO, hb⟩
    have z2 : w1.heap.size + 0 ≤ w2.heap.size := (by have := hb.size; (try simp at this); omega)
    have K2_p0 : Hid (w2.heap[w.heap.size]? = some (.cells #[.int .i64 a0, .int .u32 a1, .int .i64 a2, .slice A_av3 ax3.length cap_av3] 54 (0, 0))) := Lib.hid ((hb.block _ (by first | omega | (simp <;> omega))).trans (by repeat (first | exact K1_p0.out | exact blknew _ _ | exact blknew' _ _ _ (by simp) | with_reducible refine blkal ?_ _)))
    have B2 : Hid (Below w.heap.size w w2) := Lib.hid (bthen (by repeat (first | with_reducible exact B1.out | with_reducible refine bal ?_ _ | with_reducible refine bdrew1 ?_)) hb)
    have L2_2 : Hid (∀ b ∈ F2, w1.heap.size + 0 ≤ b ∧ b < w2.heap.size) := Lib.hid (fun b hm => ⟨by have := hO.ge b hm; (try simp at this); omega, hO.lt b hm⟩)
    have O2_2 := Lib.hid hO
    clear K1_p0 hO B1 hb c1_p00 c1_p01 c1_p02 c1_p03 y1_p0
    obtain ⟨c2_p00, c2_p01, c2_p02, c2_p03⟩ := blkc4 K2_p0.out
    have y2_p0 : w.heap.size < w2.heap.size := blklt K2_p0.out
    go_wp2_with fail
    refine Calls.mono (HS.out _ _ (O2_2.out.lst.below (by repeat (first | with_reducible exact Below.refl _ _ | with_reducible refine bal ?_ _ | with_reducible refine bdrew1 ?_))) (by omega)) ?_
    rintro e0 w3 ⟨rfl, hb⟩
    have z3 : w2.heap.size + 0 ≤ w3.heap.size := (by have := hb.size; (try simp at this); omega)
    have K3_p0 : Hid (w3.heap[w.heap.size]? = some (.cells #[.int .i64 a0, .int .u32 a1, .int .i64 a2, .slice A_av3 ax3.length cap_av3] 54 (0, 0))) := Lib.hid ((hb.block _ (by first | omega | (simp <;> omega))).trans (by repeat (first | exact K2_p0.out | exact blknew _ _ | exact blknew' _ _ _ (by simp) | with_reducible refine blkal ?_ _)))
    have O3_2 := Lib.hid (O2_2.out.below (Nat.le_refl _) (bthen (by repeat (first | with_reducible exact Below.refl _ _ | with_reducible refine bal ?_ _ | with_reducible refine bdrew1 ?_)) hb))
    have B3 : Hid (Below w.heap.size w w3) := Lib.hid (bthen (by repeat (first | with_reducible exact B2.out | with_reducible refine bal ?_ _ | with_reducible refine bdrew1 ?_)) hb)
    clear O2_2 K2_p0 B2 hb c2_p00 c2_p01 c2_p02 c2_p03 y2_p0
    obtain ⟨c3_p00, c3_p01, c3_p02, c3_p03⟩ := blkc4 K3_p0.out
    have y3_p0 : w.heap.size < w3.heap.size := blklt K3_p0.out
    go_wp2_with fail
    refine Calls.mono (toFlagSum_any _ _ _ _ ax3 _ (ah3.below (by repeat (first | with_reducible exact B3.out | with_reducible refine bal ?_ _ | with_reducible refine bdrew1 ?_))) (by omega)) ?_
    rintro e0 w4 ⟨A4, cap4, F4, rfl, hO, hb⟩
    have z4 : w3.heap.size + 0 ≤ w4.heap.size := (by have := hb.size; (try simp at this); omega)
    have K4_p0 : Hid (w4.heap[w.heap.size]? = some (.cells #[.int .i64 a0, .int .u32 a1, .int .i64 a2, .slice A_av3 ax3.length cap_av3] 54 (0, 0))) := Lib.hid ((hb.block _ (by first | omega | (simp <;> omega))).trans (by repeat (first | exact K3_p0.out | exact blknew _ _ | exact blknew' _ _ _ (by simp) | with_reducible refine blkal ?_ _)))
    have O4_2 := Lib.hid (O3_2.out.below (Nat.le_refl _) (bthen (by repeat (first | with_reducible exact Below.refl _ _ | with_reducible refine bal ?_ _ | with_reducible refine bdrew1 ?_)) hb))
    have B4 : Hid (Below w.heap.size w w4) := Lib.hid (bthen (by repeat (first | with_reducible exact B3.out | with_reducible refine bal ?_ _ | with_reducible refine bdrew1 ?_)) hb)
    have L4_4 : Hid (∀ b ∈ F4, w3.heap.size + 0 ≤ b ∧ b < w4.heap.size) := Lib.hid (fun b hm => ⟨by have := hO.ge b hm; (try simp at this); omega, hO.lt b hm⟩)
    have O4_4 := Lib.hid hO
    clear O3_2 K3_p0 hO B3 hb c3_p00 c3_p01 c3_p02 c3_p03 y3_p0
    obtain ⟨c4_p00, c4_p01, c4_p02, c4_p03⟩ := blkc4 K4_p0.out
    have y4_p0 : w.heap.size < w4.heap.size := blklt K4_p0.out
    go_wp2_with fail
    refine Calls.mono (HI.out _ _ (O4_4.out.lst.below (by repeat (first | with_reducible exact Below.refl _ _ | with_reducible refine bal ?_ _ | with_reducible refine bdrew1 ?_))) (by omega)) ?_
    rintro e0 w5 ⟨rfl, hb⟩
    have z5 : w4.heap.size + 1 ≤ w5.heap.size := (by have := hb.size; (try simp at this); omega)
    have K5_p0 : Hid (w5.heap[w.heap.size]? = some (.cells #[.int .i64 a0, .int .u32 a1, .int .i64 a2, .slice A_av3 ax3.length cap_av3] 54 (0, 0))) := Lib.hid ((hb.block _ (by first | omega | (simp <;> omega))).trans (by repeat (first | exact K4_p0.out | exact blknew _ _ | exact blknew' _ _ _ (by simp) | with_reducible refine blkal ?_ _)))
    have K5_s5 : Hid (w5.heap[w4.heap.size]? = some (.cells #[.int .i64 a0, .int .u32 a1, .int .i64 a2, .slice A4 ax3.length cap4] 30 (0, 0))) := Lib.hid ((hb.block _ (by first | omega | (simp <;> omega))).trans (by repeat (first | exact blknew _ _ | exact blknew' _ _ _ (by simp) | with_reducible refine blkal ?_ _)))
    have O5_2 := Lib.hid (O4_2.out.below (Nat.le_refl _) (bthen (by repeat (first | with_reducible exact Below.refl _ _ | with_reducible refine bal ?_ _ | with_reducible refine bdrew1 ?_)) hb))
    have O5_4 := Lib.hid (O4_4.out.below (Nat.le_refl _) (bthen (by repeat (first | with_reducible exact Below.refl _ _ | with_reducible refine bal ?_ _ | with_reducible refine bdrew1 ?_)) hb))
    have B5 : Hid (Below w.heap.size w w5) := Lib.hid (bthen (by repeat (first | with_reducible exact B4.out | with_reducible refine bal ?_ _ | with_reducible refine bdrew1 ?_)) hb)
    clear O4_2 O4_4 K4_p0 B4 hb c4_p00 c4_p01 c4_p02 c4_p03 y4_p0
    obtain ⟨c5_p00, c5_p01, c5_p02, c5_p03⟩ := blkc4 K5_p0.out
    have y5_p0 : w.heap.size < w5.heap.size := blklt K5_p0.out
    obtain ⟨c5_s50, c5_s51, c5_s52, c5_s53⟩ := blkc4 K5_s5.out
    have y5_s5 : w4.heap.size < w5.heap.size := blklt K5_s5.out
    go_wp2_with fail
    (refine wp_region_held_drew (S := (fun w' => w'.cell? ⟨w.heap.size, 0, none⟩ = some (.int .i64 a0) ∧ w'.cell? ⟨w.heap.size, 1, none⟩ = some (.int .u32 a1) ∧ w'.cell? ⟨w.heap.size, 2, none⟩ = some (.int .i64 a2) ∧ w'.cell? ⟨w.heap.size, 3, none⟩ = some (.slice A_av3 ax3.length cap_av3) ∧ w'.cell? ⟨w4.heap.size, 0, none⟩ = some (.int .i64 a0) ∧ w'.cell? ⟨w4.heap.size, 1, none⟩ = some (.int .u32 a1) ∧ w'.cell? ⟨w4.heap.size, 2, none⟩ = some (.int .i64 a2) ∧ w'.cell? ⟨w4.heap.size, 3, none⟩ = some (.slice A4 ax3.length cap4))) (by kernel_rfl) ?_ (fun hHeld => ?_); (focus (simp [*, go_sem])); refine rg_take 0 (some 22) (v := ?_) rfl (by kernel_rfl) (by kernel_rfl) (by kernel_rfl) (by kernel_rfl) (fun _ _ _ h => h) (Or.inl ⟨by kernel_rfl, ?_⟩) (by assumption) ?_; rotate_left; (focus (intro w' hSw; (try dsimp only at hSw); go_simp; (try with_reducible rfl))); (try simp only [Act.put, List.setIfInBounds_toArray, List.set_cons_zero, List.set_cons_succ]); refine rg_take 1 (some 23) (v := ?_) rfl (by kernel_rfl) (by kernel_rfl) (by kernel_rfl) (by kernel_rfl) (fun _ _ _ h => h) (Or.inl ⟨by kernel_rfl, ?_⟩) (by assumption) ?_; rotate_left; (focus (intro w' hSw; (try dsimp only at hSw); go_simp; (try with_reducible rfl))); (try simp only [Act.put, List.setIfInBounds_toArray, List.set_cons_zero, List.set_cons_succ]); refine wpAnyH_ready (rs := [2]) (by kernel_rfl) (by simp) ?_; refine AllReadyH.cons rfl (fun K hK => ?_) AllReadyH.nil; go_simp; (go_at_call 21; refine Calls.mono (toFlagSum_any _ _ _ _ ax3 _ (ah3.below (by repeat (first | with_reducible exact B5.out | with_reducible refine bal ?_ _ | with_reducible refine bdrew1 ?_))) (by omega)) ?_; rintro e0 w6 ⟨A6, cap6, F6, rfl, hO, hb⟩; have z6 : w5.heap.size + 0 ≤ w6.heap.size := (by have := hb.size; (try simp at this); omega); have K6_p0 : Hid (w6.heap[w.heap.size]? = some (.cells #[.int .i64 a0, .int .u32 a1, .int .i64 a2, .slice A_av3 ax3.length cap_av3] 54 (0, 0))) := Lib.hid ((hb.block _ (by first | omega | (simp <;> omega))).trans (by repeat (first | exact K5_p0.out | exact blknew _ _ | exact blknew' _ _ _ (by simp) | with_reducible refine blkal ?_ _))); have K6_s5 : Hid (w6.heap[w4.heap.size]? = some (.cells #[.int .i64 a0, .int .u32 a1, .int .i64 a2, .slice A4 ax3.length cap4] 30 (0, 0))) := Lib.hid ((hb.block _ (by first | omega | (simp <;> omega))).trans (by repeat (first | exact K5_s5.out | exact blknew _ _ | exact blknew' _ _ _ (by simp) | with_reducible refine blkal ?_ _))); have O6_2 := Lib.hid (O5_2.out.below (Nat.le_refl _) (bthen (by repeat (first | with_reducible exact Below.refl _ _ | with_reducible refine bal ?_ _ | with_reducible refine bdrew1 ?_)) hb)); have O6_4 := Lib.hid (O5_4.out.below (Nat.le_refl _) (bthen (by repeat (first | with_reducible exact Below.refl _ _ | with_reducible refine bal ?_ _ | with_reducible refine bdrew1 ?_)) hb)); have B6 : Hid (Below w.heap.size w w6) := Lib.hid (bthen (by repeat (first | with_reducible exact B5.out | with_reducible refine bal ?_ _ | with_reducible refine bdrew1 ?_)) hb); have L6_6 : Hid (∀ b ∈ F6, w5.heap.size + 0 ≤ b ∧ b < w6.heap.size) := Lib.hid (fun b hm => ⟨by have := hO.ge b hm; (try simp at this); omega, hO.lt b hm⟩); have O6_6 := Lib.hid hO; clear O5_2 O5_4 K5_p0 K5_s5 hO B5 hb c5_p00 c5_p01 c5_p02 c5_p03 y5_p0 c5_s50 c5_s51 c5_s52 c5_s53 y5_s5; obtain ⟨c6_p00, c6_p01, c6_p02, c6_p03⟩ := blkc4 K6_p0.out; have y6_p0 : w.heap.size < w6.heap.size := blklt K6_p0.out; obtain ⟨c6_s50, c6_s51, c6_s52, c6_s53⟩ := blkc4 K6_s5.out; have y6_s5 : w4.heap.size < w6.heap.size := blklt K6_s5.out); go_wp2_with fail; refine hK.out _ _ ?_ (fun hHeld => ?_); (focus (simp [*, go_sem])); clear hK K; (try simp only [Act.put, List.setIfInBounds_toArray, List.set_cons_zero, List.set_cons_succ]); refine wpAnyH_ready (rs := [3]) (by kernel_rfl) (by simp) ?_; refine AllReadyH.cons rfl (fun K hK => ?_) AllReadyH.nil; go_simp; (go_at_call 11; refine Calls.mono (eqFlagSum_same _ _ _ _ ax3 _ _ (O6_4.out.lst.below (by repeat (first | with_reducible exact Below.refl _ _ | with_reducible refine bal ?_ _ | with_reducible refine bdrew1 ?_))) (O6_6.out.lst.below (by repeat (first | with_reducible exact Below.refl _ _ | with_reducible refine bal ?_ _ | with_reducible refine bdrew1 ?_))) (by omega)) ?_; rintro e0 w7 ⟨rfl, hb⟩; have z7 : w6.heap.size + 0 ≤ w7.heap.size := (by have := hb.size; (try simp at this); omega); have K7_p0 : Hid (w7.heap[w.heap.size]? = some (.cells #[.int .i64 a0, .int .u32 a1, .int .i64 a2, .slice A_av3 ax3.length cap_av3] 54 (0, 0))) := Lib.hid ((hb.block _ (by first | omega | (simp <;> omega))).trans (by repeat (first | exact K6_p0.out | exact blknew _ _ | exact blknew' _ _ _ (by simp) | with_reducible refine blkal ?_ _))); have K7_s5 : Hid (w7.heap[w4.heap.size]? = some (.cells #[.int .i64 a0, .int .u32 a1, .int .i64 a2, .slice A4 ax3.length cap4] 30 (0, 0))) := Lib.hid ((hb.block _ (by first | omega | (simp <;> omega))).trans (by repeat (first | exact K6_s5.out | exact blknew _ _ | exact blknew' _ _ _ (by simp) | with_reducible refine blkal ?_ _))); have O7_2 := Lib.hid (O6_2.out.below (Nat.le_refl _) (bthen (by repeat (first | with_reducible exact Below.refl _ _ | with_reducible refine bal ?_ _ | with_reducible refine bdrew1 ?_)) hb)); have O7_4 := Lib.hid (O6_4.out.below (Nat.le_refl _) (bthen (by repeat (first | with_reducible exact Below.refl _ _ | with_reducible refine bal ?_ _ | with_reducible refine bdrew1 ?_)) hb)); have O7_6 := Lib.hid (O6_6.out.below (Nat.le_refl _) (bthen (by repeat (first | with_reducible exact Below.refl _ _ | with_reducible refine bal ?_ _ | with_reducible refine bdrew1 ?_)) hb)); have B7 : Hid (Below w.heap.size w w7) := Lib.hid (bthen (by repeat (first | with_reducible exact B6.out | with_reducible refine bal ?_ _ | with_reducible refine bdrew1 ?_)) hb); clear O6_2 O6_4 O6_6 K6_p0 K6_s5 B6 hb c6_p00 c6_p01 c6_p02 c6_p03 y6_p0 c6_s50 c6_s51 c6_s52 c6_s53 y6_s5; obtain ⟨c7_p00, c7_p01, c7_p02, c7_p03⟩ := blkc4 K7_p0.out; have y7_p0 : w.heap.size < w7.heap.size := blklt K7_p0.out; obtain ⟨c7_s50, c7_s51, c7_s52, c7_s53⟩ := blkc4 K7_s5.out; have y7_s5 : w4.heap.size < w7.heap.size := blklt K7_s5.out); go_wp2_with fail; refine hK.out _ _ ?_ (fun hHeld => ?_); (focus (simp [*, go_sem])); clear hK K; (try simp only [Act.put, List.setIfInBounds_toArray, List.set_cons_zero, List.set_cons_succ]); refine rg_take 4 (some 26) (v := ?_) rfl (by kernel_rfl) (by kernel_rfl) (by kernel_rfl) (by kernel_rfl) (fun _ _ _ h => h) (Or.inl ⟨by kernel_rfl, ?_⟩) (by assumption) ?_; rotate_left; (focus (intro w' hSw; (try dsimp only at hSw); go_simp; (try with_reducible rfl))); (try simp only [Act.put, List.setIfInBounds_toArray, List.set_cons_zero, List.set_cons_succ]); refine wpAnyH_done (by kernel_rfl) ?_ _)
    clear hHeld
    go_wp2_with fail
    exact bodyPost_ret (v := .bool true) (by simp [results, Try.results5, go_sem]) rfl ⟨rfl, (by first | exact B7.out | exact bal B7.out _ | exact bal (bal B7.out _) _)⟩
end Go.Proofs.Ytbpamifkfbcloaa

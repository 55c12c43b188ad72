/- The average of a sum: spec.l05Average, spec.AverageSum. -/
import Derived.Test.YtpcjinbbgnmchaaGreatKb
import Derived.Test.YtpcjinbbgnmchaaGreatKc
import Derived.Test.YtpcjinbbgnmchaaGreatVt
namespace Go.Proofs.YtpcjinbbgnmchaaGreat
open Go.ChangeShapes Go.WideShapes Go.RowKit
set_option linter.unusedVariables false
set_option linter.unusedSimpArgs false
attribute [local irreducible] Calls
theorem avZ_none {T : List Trm} {k : Nat} {d : Trm} (h : T[k]? = some d) (hn : mulO d.2 (avD d) = none) : avZ T = true := by
  unfold avZ
  exact List.any_eq_true.2 ⟨d, List.mem_of_getElem? h, by rw [hn]; rfl⟩
set_option maxHeartbeats 8000000 in
set_option maxRecDepth 100000 in
theorem l05Average_any (w : World) (ba : Nat) (tn te s : Int) (T : List Trm) (v : Value) (hba : w.heap[ba]? = some (.cells #[.int .i64 tn, .int .u32 te, .int .i64 s, v] 34 (0, 0))) (hT : Lst shTerm w T v) (h1 : sumOk tn te s T = true) :
    Calls Tryz.prog 67 #[.pointer (some ⟨ba, 0, none⟩)] w (SumRet w.heap.size w (avC T) (tdT (avC T) (0, 0)) (tdS (avC T) s) (tdL (avC T) (nzT (fI (avX T)).2))) := by
  obtain ⟨A, cap, rfl, _, _, hoT, helT⟩ := lstTerm hT
  have hlT : T.length ≤ 64 := (sumOk_iff.1 h1).2.2.1
  have HTM := Lib.hid (fun d hd => av_term h1 hd (hoT d hd))
  have HFR := Lib.hid (avX_frame h1 hoT)
  have HCO := Lib.hid (fI_code (avX_frame h1 hoT))
  obtain ⟨N, hN⟩ : ∃ N : Nat, Hid (T.length = N) := ⟨_, Lib.hid rfl⟩
  rw [hN.out] at helT hlT hba
  have HET := Lib.hid helT
  have ya := blklt hba
  obtain ⟨a0, a1, a2, a3⟩ := blkc4 hba
  have KA := Lib.hid hba
  clear hT h1 hoT helT hba
  go_enter Tryz.func67, Tryz.ntmps67
  go_wp2_with fail
  refine Calls.mono (bBegin_any _ 0 0 s) ?_
  rintro e0 w1 ⟨bb, rfl, hBl, hb⟩
  have K1 : Hid (w1.heap[w.heap.size]? = some (.cells #[.int .i64 0, .int .u32 0, .int .i64 0, .slice none 0 0] 34 (0, 0))) := Lib.hid (bblk hb (by simp) (blknew w _))
  have HB1 := Lib.hid (show Below w.heap.size w w1 from Below.trans (bal (Below.refl _ w) _) (hb.mono (by simp)))
  have HBL : Hid (Bld (w.heap.size + 1) w1 bb 0 0 s 0 []) := Lib.hid (by have h := hBl; simp at h; exact h)
  clear hBl hb a0 a1 a2 a3
  go_wp2_with fail
  go_loopw [5] (fun i wr => ∃ (k : Nat), k ≤ N ∧ i = .int .i64 k ∧ wr.heap[w.heap.size]? = some (.cells #[.int .i64 0, .int .u32 0, .int .i64 0, .slice none 0 0] 34 (0, 0)) ∧ Hid (avZ (T.take k) = false) ∧ Hid (Bld (w.heap.size + 1) wr bb 0 0 s (fB ((avX T).take k)).1 (fB ((avX T).take k)).2) ∧ Below w.heap.size w wr ∧ w.heap.size + 1 ≤ wr.heap.size) (fun i _ => N - (intOf i).toNat)
  case atStart => exact ⟨0, Nat.zero_le _, rfl, K1.out, Lib.hid rfl, HBL, HB1.out, blklt K1.out⟩
  case round =>
    obtain ⟨k, hk, rfl, b1, hZ, hBl, hB, hzz⟩ := hrel
    obtain ⟨W0, rfl⟩ : ∃ x, x = wr := ⟨_, rfl⟩
    have hzB := hB.size
    have B1 := Lib.hid b1
    have y1 := blklt b1
    have a3 := bkeep hB (blkc4 KA.out).2.2.2
    have ya0 : ba < W0.heap.size := by omega
    by_cases hlt : k < N
    · clear b1
      have hk8 : (k : Int) < (N : Int) := by omega
      obtain ⟨bl, off, rfl, hel⟩ := HET.out (by omega)
      obtain ⟨d, hd, hok, x0, x1, x2, x3, x4⟩ := hel k hlt
      have zb := World.block_lt_of_cell? _ _ x0
      simp only at zb
      replace x0 := bkeep hB x0
      replace x1 := bkeep hB x1
      replace x2 := bkeep hB x2
      replace x3 := bkeep hB x3
      replace x4 := bkeep hB x4
      have zb2 : bl < W0.heap.size := World.block_lt_of_cell? _ _ x0
      obtain ⟨kk, nn, q1, q2, q3, q4, q5, q6, q7, q8, q9, q10, q11⟩ := HTM.out d (List.mem_of_getElem? hd)
      have HFC : Hid (∀ W, Calls Tryz.prog 128 #[.agg #[.int .i64 d.1.1, .int .i64 d.1.2.1, .int .u32 d.1.2.2]] W fun r w' => r = .returned (.agg #[.int .i64 (avD d).1, .int .i64 (avD d).2]) ∧ Below W.heap.size W w') := Lib.hid fun W => by
        have h := l04Factor_any W kk nn d.1.2.2 q4 q5 q6 q7
        unfold avD
        rw [q1, q2, Int.toNat_natCast, Int.toNat_natCast]
        exact h
      have HLE : Hid (∀ W, Calls Tryz.prog 75 #[.agg #[.int .i64 0, .int .i64 d.1.2.1, .int .u32 d.1.2.2]] W fun e0 w' => e0 = .returned (.agg #[.int .i64 0, .int .i64 d.1.2.1, .int .u32 (leastF (avG d))]) ∧ Below W.heap.size W w') := Lib.hid fun W => sleast_i W (avG d) q10 q11
      have HFO : Hid (okFlag (lfF (avG d))) := Lib.hid ⟨q10.1, q10.2.1, leastI_ok _ _ q10.2.2⟩
      have HQ := Lib.hid q8
      have HDI := Lib.hid q9
      have hnx := Lib.hid (fB_take (avX_at hd))
      have hnz := Lib.hid (avZ_take hd)
      have hno := Lib.hid (avZ_none hd)
      obtain ⟨D, hD⟩ : ∃ D, Hid (avD d = D) := ⟨_, Lib.hid rfl⟩
      rw [hD.out] at HFC HDI hnx hnz hno
      obtain ⟨R, hR⟩ : ∃ R, Hid (rD (mulO d.2 D) = R) := ⟨_, Lib.hid rfl⟩
      obtain ⟨RC, hRC⟩ : ∃ RC, Hid (rC (mulO d.2 D) = RC) := ⟨_, Lib.hid rfl⟩
      have HMI : Hid ((fB ((avX T).take k)).1 = 0 → ∀ x ∈ (fB ((avX T).take k)).2, inF x.2) := Lib.hid (fB_in (fun x hx => HFR.out x (List.mem_of_mem_take hx)))
      have HLL : Hid ((fB ((avX T).take k)).2.length ≤ 1048576) := Lib.hid (by
        have h := fB_len ((avX T).take k)
        rw [List.length_take, avX_len, hN.out] at h
        omega)
      obtain ⟨C5, hC5⟩ : ∃ C5, fB ((avX T).take k) = C5 := ⟨_, rfl⟩
      rw [hC5] at hBl HMI HLL hnx
      obtain ⟨LF, hLF⟩ : ∃ LF, leastF (avG d) = LF := ⟨_, rfl⟩
      have hlf : lfF (avG d) = ((0 : Int), (d.1.2.1, LF)) := by rw [← hLF]; rfl
      rw [hLF] at HLE
      rw [hlf] at HFO hnx
      clear hel hd hok hC5 hLF hlf q1 q2 q3 q4 q5 q6 q7 q8 q9 q10 q11
      have HK1 : Hid (∀ V V' : World, Below V.heap.size V V' → (fun w' => w'.cell? ⟨ba, 3, none⟩ = some (.slice (some ⟨bl, off, none⟩) N cap) ∧ w'.cell? ⟨bl, off + k * 5, none⟩ = some (.int .i64 d.1.1) ∧ w'.cell? ⟨bl, off + k * 5 + 1, none⟩ = some (.int .i64 d.1.2.1) ∧ w'.cell? ⟨bl, off + k * 5 + 2, none⟩ = some (.int .u32 d.1.2.2) ∧ w'.cell? ⟨bl, off + k * 5 + 3, none⟩ = some (.int .i64 d.2.1) ∧ w'.cell? ⟨bl, off + k * 5 + 4, none⟩ = some (.int .i64 d.2.2)) V → (fun w' => w'.cell? ⟨ba, 3, none⟩ = some (.slice (some ⟨bl, off, none⟩) N cap) ∧ w'.cell? ⟨bl, off + k * 5, none⟩ = some (.int .i64 d.1.1) ∧ w'.cell? ⟨bl, off + k * 5 + 1, none⟩ = some (.int .i64 d.1.2.1) ∧ w'.cell? ⟨bl, off + k * 5 + 2, none⟩ = some (.int .u32 d.1.2.2) ∧ w'.cell? ⟨bl, off + k * 5 + 3, none⟩ = some (.int .i64 d.2.1) ∧ w'.cell? ⟨bl, off + k * 5 + 4, none⟩ = some (.int .i64 d.2.2)) V') := Lib.hid fun V V' hb h => ⟨bkeep hb h.1, bkeep hb h.2.1, bkeep hb h.2.2.1, bkeep hb h.2.2.2.1, bkeep hb h.2.2.2.2.1, bkeep hb h.2.2.2.2.2⟩
      go_upto_region 5 with fail
      go_cut [6, 7] from 14 to 61 (fun s8 s9 wx => ∃ g8 : Nat, s8 = .pointer (some ⟨g8, 0, none⟩) ∧ s9 = .int .i64 RC ∧ wx.heap[g8]? = some (.cells #[.int .i64 R.1, .int .i64 R.2] 53 (0, 0)) ∧ Below W0.heap.size W0 wx ∧ W0.heap.size ≤ g8)
      case first =>
        (refine wp_region_held_drew (S := (fun w' => w'.cell? ⟨ba, 3, none⟩ = some (.slice (some ⟨bl, off, none⟩) N cap) ∧ w'.cell? ⟨bl, off + k * 5, none⟩ = some (.int .i64 d.1.1) ∧ w'.cell? ⟨bl, off + k * 5 + 1, none⟩ = some (.int .i64 d.1.2.1) ∧ w'.cell? ⟨bl, off + k * 5 + 2, none⟩ = some (.int .u32 d.1.2.2) ∧ w'.cell? ⟨bl, off + k * 5 + 3, none⟩ = some (.int .i64 d.2.1) ∧ w'.cell? ⟨bl, off + k * 5 + 4, none⟩ = some (.int .i64 d.2.2))) (by kernel_rfl) ?_ (fun hHeld => ?_); (focus (first | exact hS | (simp [*, go_sem]; done) | fail)); refine rt 0 (some 24) (v := ?_) rfl rfl ?_ ?_; rotate_left; (focus (intro w' hSw; (try dsimp only at hSw); go_simp; (try with_reducible rfl))); (try simp only [Act.put, nA, nB, nC]); refine rt 1 (some 25) (v := ?_) rfl rfl ?_ ?_; rotate_left; (focus (intro w' hSw; (try dsimp only at hSw); go_simp; (try with_reducible rfl))); (try simp only [Act.put, nA, nB, nC]); refine rt 2 (some 26) (v := ?_) rfl rfl ?_ ?_; rotate_left; (focus (intro w' hSw; (try dsimp only at hSw); go_simp; (try with_reducible rfl))); (try simp only [Act.put, nA, nB, nC]); refine rt 3 (some 27) (v := ?_) rfl rfl ?_ ?_; rotate_left; (focus (intro w' hSw; (try dsimp only at hSw); go_simp; (try with_reducible rfl))); (try simp only [Act.put, nA, nB, nC]); refine rt 4 (some 28) (v := ?_) rfl rfl ?_ ?_; rotate_left; (focus (intro w' hSw; (try dsimp only at hSw); go_simp; (try with_reducible rfl))); (try simp only [Act.put, nA, nB, nC]); refine rt 5 (some 29) (v := ?_) rfl rfl ?_ ?_; rotate_left; (focus (intro w' hSw; (try dsimp only at hSw); go_simp; (try with_reducible rfl))); (try simp only [Act.put, nA, nB, nC]); refine rt 6 (some 30) (v := ?_) rfl rfl ?_ ?_; rotate_left; (focus (intro w' hSw; (try dsimp only at hSw); go_simp; (try with_reducible rfl))); (try simp only [Act.put, nA, nB, nC]); refine rt 7 (some 31) (v := ?_) rfl rfl ?_ ?_; rotate_left; (focus (intro w' hSw; (try dsimp only at hSw); go_simp; (try with_reducible rfl))); (try simp only [Act.put, nA, nB, nC]); refine rt 8 (some 32) (v := ?_) rfl rfl ?_ ?_; rotate_left; (focus (intro w' hSw; (try dsimp only at hSw); go_simp; (try with_reducible rfl))); (try simp only [Act.put, nA, nB, nC]); refine rt 9 (some 33) (v := ?_) rfl rfl ?_ ?_; rotate_left; (focus (intro w' hSw; (try dsimp only at hSw); go_simp; (try with_reducible rfl))); (try simp only [Act.put, nA, nB, nC]); refine rt 10 (some 34) (v := ?_) rfl rfl ?_ ?_; rotate_left; (focus (intro w' hSw; (try dsimp only at hSw); go_simp; (try with_reducible rfl))); (try simp only [Act.put, nA, nB, nC]); refine rt 11 (some 35) (v := ?_) rfl rfl ?_ ?_; rotate_left; (focus (intro w' hSw; (try dsimp only at hSw); go_simp; (try with_reducible rfl))); (try simp only [Act.put, nA, nB, nC]); refine rt 12 (some 36) (v := ?_) rfl rfl ?_ ?_; rotate_left; (focus (intro w' hSw; (try dsimp only at hSw); go_simp; (try with_reducible rfl))); (try simp only [Act.put, nA, nB, nC]); refine rt 13 (some 37) (v := ?_) rfl rfl ?_ ?_; rotate_left; (focus (intro w' hSw; (try dsimp only at hSw); go_simp; (try with_reducible rfl))); (try simp only [Act.put, nA, nB, nC]); refine rt 14 (some 38) (v := ?_) rfl rfl ?_ ?_; rotate_left; (focus (intro w' hSw; (try dsimp only at hSw); go_simp; (try with_reducible rfl))); (try simp only [Act.put, nA, nB, nC]); refine rt 15 (some 39) (v := ?_) rfl rfl ?_ ?_; rotate_left; (focus (intro w' hSw; (try dsimp only at hSw); go_simp; (try with_reducible rfl))); (try simp only [Act.put, nA, nB, nC]); refine wpAnyH_ready (rs := [16, 21]) (by kernel_rfl) (by simp) ?_; refine AllReadyH.cons rfl (fun K hK => ?_) (AllReadyH.cons rfl (fun K hK => ?_) AllReadyH.nil); (focus (go_simp; (go_at_call 128; refine Calls.mono (HFC.out _) ?_; rintro e0 w3 ⟨rfl, hb⟩; have hS := HK1.out _ _ hb hHeld; have HB3 := Lib.hid (show Below W0.heap.size W0 w3 from Below.trans belA (hb.mono (by first | omega | (simp <;> omega)))); (try (have kq := bblk hb (blklt kp) kp; clear kp; have kp := kq; clear kq)); have hz3 := HB3.out.size; clear hb); go_wp2_with fail; refine hK.out _ _ ?_ (fun hHeld => ?_); (focus (first | exact hS | (simp [*, go_sem]; done) | fail)); clear hK K; (try simp only [Act.put, nA, nB, nC]); refine wpAnyH_ready (rs := [17, 21]) (by kernel_rfl) (by simp) ?_; refine AllReadyH.cons rfl (fun K hK => ?_) (AllReadyH.cons rfl (fun K hK => ?_) AllReadyH.nil); (focus (go_simp; (go_at_call 95; refine Calls.mono (rmul_any d.2 D _ HQ.out HDI.out) ?_; rw [hR.out, hRC.out]; rintro e0 w4 ⟨rfl, hb⟩; have hS := HK1.out _ _ hb hHeld; have y41 : ba < w4.heap.size := World.block_lt_of_cell? _ _ hS.1; have y42 : bl < w4.heap.size := World.block_lt_of_cell? _ _ hS.2.1; have hb3 := HB3.out; have HB4 := Lib.hid (show Below W0.heap.size W0 w4 from Below.trans belA (hb.mono (by have := hb3.size; simp <;> omega))); (try (have kq := bblk hb (blklt kp) kp; clear kp; have kp := kq; clear kq; obtain ⟨pz0, pz1, pf0, pf1⟩ := blk2 kp; have pzz := blklt kp)); have hz4 := HB4.out.size; clear hb hb3); go_wp2_with fail; refine hK.out _ _ ?_ (fun hHeld => ?_); (focus (first | exact hS | (simp [*, go_sem]; done) | fail)); clear hK K; (try simp only [Act.put, nA, nB, nC]); refine rt 18 (some 23) (v := ?_) rfl rfl ?_ ?_; rotate_left; (focus (intro w' hSw; (try dsimp only at hSw); go_simp; (try with_reducible rfl))); (try simp only [Act.put, nA, nB, nC]); refine rt 19 (some 42) (v := ?_) rfl rfl ?_ ?_; rotate_left; (focus (intro w' hSw; (try dsimp only at hSw); go_simp; (try with_reducible rfl))); (try simp only [Act.put, nA, nB, nC]); refine rt 20 (some 43) (v := ?_) rfl rfl ?_ ?_; rotate_left; (focus (intro w' hSw; (try dsimp only at hSw); go_simp; (try with_reducible rfl))); (try simp only [Act.put, nA, nB, nC]); refine wpAnyH_ready (rs := [21]) (by kernel_rfl) (by simp) ?_; refine AllReadyH.cons rfl (fun K hK => ?_) AllReadyH.nil; (try go_simp); refine hK.out _ _ ?_ (fun hHeld => ?_); (focus (first | exact hS | (simp [*, go_sem]; done) | fail)); clear hK K; (try simp only [Act.put, nA, nB, nC]); refine wpAnyH_ready (rs := [22]) (by kernel_rfl) (by simp) ?_; refine AllReadyH.cons rfl (fun K hK => ?_) AllReadyH.nil; (try go_simp); refine hK.out _ _ ?_ (fun hHeld => ?_); (focus (first | exact hS | (simp [*, go_sem]; done) | fail)); clear hK K; (try simp only [Act.put, nA, nB, nC]); refine rt 23 (some 7) (v := ?_) rfl rfl ?_ ?_; rotate_left; (focus (intro w' hSw; (try dsimp only at hSw); go_simp; (try with_reducible rfl))); (try simp only [Act.put, nA, nB, nC]); refine wpAnyH_done (by kernel_rfl) ?_ _)); rotate_left 1; (focus (((try go_simp); have hS := HK1.out _ _ (bal (Below.refl w3.heap.size w3) (.cells #[.int .i64 0, .int .i64 0] 53)) hHeld; have kp : (w3.alloc (.cells #[.int .i64 0, .int .i64 0] 53)).heap[w3.heap.size]? = _ := blknew w3 _; have hnb : W0.heap.size ≤ w3.heap.size := hz3); refine hK.out _ _ ?_ (fun hHeld => ?_); (focus (first | exact hS | (simp [*, go_sem]; done) | fail)); clear hK K; (try simp only [Act.put, nA, nB, nC]); refine wpAnyH_ready (rs := [17]) (by kernel_rfl) (by simp) ?_; refine AllReadyH.cons rfl (fun K hK => ?_) AllReadyH.nil; go_simp; (go_at_call 95; refine Calls.mono (rmul_any d.2 D _ HQ.out HDI.out) ?_; rw [hR.out, hRC.out]; rintro e0 w4 ⟨rfl, hb⟩; have hS := HK1.out _ _ hb hHeld; have y41 : ba < w4.heap.size := World.block_lt_of_cell? _ _ hS.1; have y42 : bl < w4.heap.size := World.block_lt_of_cell? _ _ hS.2.1; have hb3 := HB3.out; have HB4 := Lib.hid (show Below W0.heap.size W0 w4 from Below.trans belA (hb.mono (by have := hb3.size; simp <;> omega))); (try (have kq := bblk hb (blklt kp) kp; clear kp; have kp := kq; clear kq; obtain ⟨pz0, pz1, pf0, pf1⟩ := blk2 kp; have pzz := blklt kp)); have hz4 := HB4.out.size; clear hb hb3); go_wp2_with fail; refine hK.out _ _ ?_ (fun hHeld => ?_); (focus (first | exact hS | (simp [*, go_sem]; done) | fail)); clear hK K; (try simp only [Act.put, nA, nB, nC]); refine rt 18 (some 23) (v := ?_) rfl rfl ?_ ?_; rotate_left; (focus (intro w' hSw; (try dsimp only at hSw); go_simp; (try with_reducible rfl))); (try simp only [Act.put, nA, nB, nC]); refine rt 19 (some 42) (v := ?_) rfl rfl ?_ ?_; rotate_left; (focus (intro w' hSw; (try dsimp only at hSw); go_simp; (try with_reducible rfl))); (try simp only [Act.put, nA, nB, nC]); refine rt 20 (some 43) (v := ?_) rfl rfl ?_ ?_; rotate_left; (focus (intro w' hSw; (try dsimp only at hSw); go_simp; (try with_reducible rfl))); (try simp only [Act.put, nA, nB, nC]); refine wpAnyH_ready (rs := [22]) (by kernel_rfl) (by simp) ?_; refine AllReadyH.cons rfl (fun K hK => ?_) AllReadyH.nil; (try go_simp); refine hK.out _ _ ?_ (fun hHeld => ?_); (focus (first | exact hS | (simp [*, go_sem]; done) | fail)); clear hK K; (try simp only [Act.put, nA, nB, nC]); refine rt 23 (some 7) (v := ?_) rfl rfl ?_ ?_; rotate_left; (focus (intro w' hSw; (try dsimp only at hSw); go_simp; (try with_reducible rfl))); (try simp only [Act.put, nA, nB, nC]); refine wpAnyH_done (by kernel_rfl) ?_ _)); rotate_left 1)); rotate_left 2; (focus (((try go_simp); have hS := HK1.out _ _ (bal (Below.refl W0.drew.heap.size W0.drew) (.cells #[.int .i64 0, .int .i64 0] 53)) hHeld; have kp : (W0.drew.alloc (.cells #[.int .i64 0, .int .i64 0] 53)).heap[W0.heap.size]? = _ := blknew W0.drew _; have hnb : W0.heap.size ≤ W0.heap.size := Nat.le_refl _); refine hK.out _ _ ?_ (fun hHeld => ?_); (focus (first | exact hS | (simp [*, go_sem]; done) | fail)); clear hK K; (try simp only [Act.put, nA, nB, nC]); refine wpAnyH_ready (rs := [16]) (by kernel_rfl) (by simp) ?_; refine AllReadyH.cons rfl (fun K hK => ?_) AllReadyH.nil; go_simp; (go_at_call 128; refine Calls.mono (HFC.out _) ?_; rintro e0 w3 ⟨rfl, hb⟩; have hS := HK1.out _ _ hb hHeld; have HB3 := Lib.hid (show Below W0.heap.size W0 w3 from Below.trans belA (hb.mono (by first | omega | (simp <;> omega)))); (try (have kq := bblk hb (blklt kp) kp; clear kp; have kp := kq; clear kq)); have hz3 := HB3.out.size; clear hb); go_wp2_with fail; refine hK.out _ _ ?_ (fun hHeld => ?_); (focus (first | exact hS | (simp [*, go_sem]; done) | fail)); clear hK K; (try simp only [Act.put, nA, nB, nC]); refine wpAnyH_ready (rs := [17]) (by kernel_rfl) (by simp) ?_; refine AllReadyH.cons rfl (fun K hK => ?_) AllReadyH.nil; go_simp; (go_at_call 95; refine Calls.mono (rmul_any d.2 D _ HQ.out HDI.out) ?_; rw [hR.out, hRC.out]; rintro e0 w4 ⟨rfl, hb⟩; have hS := HK1.out _ _ hb hHeld; have y41 : ba < w4.heap.size := World.block_lt_of_cell? _ _ hS.1; have y42 : bl < w4.heap.size := World.block_lt_of_cell? _ _ hS.2.1; have hb3 := HB3.out; have HB4 := Lib.hid (show Below W0.heap.size W0 w4 from Below.trans belA (hb.mono (by have := hb3.size; simp <;> omega))); (try (have kq := bblk hb (blklt kp) kp; clear kp; have kp := kq; clear kq; obtain ⟨pz0, pz1, pf0, pf1⟩ := blk2 kp; have pzz := blklt kp)); have hz4 := HB4.out.size; clear hb hb3); go_wp2_with fail; refine hK.out _ _ ?_ (fun hHeld => ?_); (focus (first | exact hS | (simp [*, go_sem]; done) | fail)); clear hK K; (try simp only [Act.put, nA, nB, nC]); refine rt 18 (some 23) (v := ?_) rfl rfl ?_ ?_; rotate_left; (focus (intro w' hSw; (try dsimp only at hSw); go_simp; (try with_reducible rfl))); (try simp only [Act.put, nA, nB, nC]); refine rt 19 (some 42) (v := ?_) rfl rfl ?_ ?_; rotate_left; (focus (intro w' hSw; (try dsimp only at hSw); go_simp; (try with_reducible rfl))); (try simp only [Act.put, nA, nB, nC]); refine rt 20 (some 43) (v := ?_) rfl rfl ?_ ?_; rotate_left; (focus (intro w' hSw; (try dsimp only at hSw); go_simp; (try with_reducible rfl))); (try simp only [Act.put, nA, nB, nC]); refine wpAnyH_ready (rs := [22]) (by kernel_rfl) (by simp) ?_; refine AllReadyH.cons rfl (fun K hK => ?_) AllReadyH.nil; (try go_simp); refine hK.out _ _ ?_ (fun hHeld => ?_); (focus (first | exact hS | (simp [*, go_sem]; done) | fail)); clear hK K; (try simp only [Act.put, nA, nB, nC]); refine rt 23 (some 7) (v := ?_) rfl rfl ?_ ?_; rotate_left; (focus (intro w' hSw; (try dsimp only at hSw); go_simp; (try with_reducible rfl))); (try simp only [Act.put, nA, nB, nC]); refine wpAnyH_done (by kernel_rfl) ?_ _)); rotate_left 1)
        all_goals
          clear hHeld
          have hb4 := HB4.out
          go_wp2_with fail
          go_meet
          exact ⟨_, rfl, rfl, blkA, belA, (by first | omega | (simp <;> omega))⟩
      case rest =>
        obtain ⟨g8, rfl, rfl, k8, hBx, hg8⟩ := hcut
        obtain ⟨w5, rfl⟩ : ∃ z, z = wc := ⟨_, rfl⟩
        have HB5 := Lib.hid hBx
        have HB5w := Lib.hid (hB.trans (hBx.mono hzB))
        have hz5 := hBx.size
        obtain ⟨u0, u1⟩ := blkc2 k8
        have y8 := blklt k8
        have kr := bblk hBx y1 B1.out
        have c3 := bkeep hBx a3
        have z1 := bkeep hBx x1
        have z2 := bkeep hBx x2
        have ya5 : ba < w5.heap.size := World.block_lt_of_cell? _ _ c3
        have yb5 : bl < w5.heap.size := World.block_lt_of_cell? _ _ z1
        obtain ⟨⟨p0, p1, p2, p3⟩, e0, e1, e2, e3⟩ := blk4 kr
        have yr5 := blklt kr
        have KR5 := Lib.hid kr
        have HBL5 := Lib.hid (hBl.out.below hBx)
        clear hBx k8 kr x0 x1 x2 x3 x4 a3
        cases hm : mulO d.2 D with
        | none =>
          have hC0 : RC = 3 := by rw [← hRC.out, hm]; rfl
          have hr : Hid (avC T = 3) := Lib.hid (by unfold avC; rw [hno.out hm]; rfl)
          subst hC0
          clear hm
          go_wp2_with fail
          refine bodyPost_ret (v := .tuple #[.agg #[.int .i64 0, .int .u32 0, .int .i64 0, .slice none 0 0], .int .i64 3]) (by simp [results, Tryz.results67, go_sem, *]) rfl ?_
          rw [hr.out]
          exact sumRet_no rfl rfl rfl (by have hb2 := HB5w.out; exact belA) rfl
        | some mm =>
          have hR0 : R = mm := by rw [← hR.out, hm]; rfl
          have hC0 : RC = 0 := by rw [← hRC.out, hm]; rfl
          have hmi : Hid (inF R) := Lib.hid (by rw [hR0]; exact mulO_in HQ.out.2.2.1 HDI.out.2.2.1 hm)
          have hK : Hid (kD (mulO d.2 D) = R) := Lib.hid (by rw [hR0, hm]; rfl)
          have hnz2 : Hid (avZ (T.take (k + 1)) = false) := Lib.hid (by rw [hnz.out, hZ.out, hm]; rfl)
          have hnx2 : Hid (fB ((avX T).take (k + 1)) = adB (C5.1, C5.2) ((0 : Int), (d.1.2.1, LF)) R) := Lib.hid (by rw [hnx.out]; show adB C5 _ (kD (mulO d.2 D)) = _; rw [hK.out])
          subst hC0
          clear hm hR0 p0 p1 p2 p3 e0 e1 e2 e3
          have HK2 : Hid (∀ V V' : World, Below V.heap.size V V' → (fun w' => w'.cell? ⟨ba, 3, none⟩ = some (.slice (some ⟨bl, off, none⟩) N cap) ∧ w'.cell? ⟨bl, off + k * 5 + 1, none⟩ = some (.int .i64 d.1.2.1) ∧ w'.cell? ⟨bl, off + k * 5 + 2, none⟩ = some (.int .u32 d.1.2.2) ∧ w'.cell? ⟨g8, 0, none⟩ = some (.int .i64 R.1) ∧ w'.cell? ⟨g8, 1, none⟩ = some (.int .i64 R.2)) V → (fun w' => w'.cell? ⟨ba, 3, none⟩ = some (.slice (some ⟨bl, off, none⟩) N cap) ∧ w'.cell? ⟨bl, off + k * 5 + 1, none⟩ = some (.int .i64 d.1.2.1) ∧ w'.cell? ⟨bl, off + k * 5 + 2, none⟩ = some (.int .u32 d.1.2.2) ∧ w'.cell? ⟨g8, 0, none⟩ = some (.int .i64 R.1) ∧ w'.cell? ⟨g8, 1, none⟩ = some (.int .i64 R.2)) V') := Lib.hid fun V V' hb h => ⟨bkeep hb h.1, bkeep hb h.2.1, bkeep hb h.2.2.1, bkeep hb h.2.2.2.1, bkeep hb h.2.2.2.2⟩
          go_wp2_with fail
          (refine last_region (S := (fun w' => w'.cell? ⟨ba, 3, none⟩ = some (.slice (some ⟨bl, off, none⟩) N cap) ∧ w'.cell? ⟨bl, off + k * 5 + 1, none⟩ = some (.int .i64 d.1.2.1) ∧ w'.cell? ⟨bl, off + k * 5 + 2, none⟩ = some (.int .u32 d.1.2.2) ∧ w'.cell? ⟨g8, 0, none⟩ = some (.int .i64 R.1) ∧ w'.cell? ⟨g8, 1, none⟩ = some (.int .i64 R.2))) 13 (by kernel_rfl) ?_ (fun hHeld => ?_); (focus (first | exact hS | (simp [*, go_sem]; done) | fail)); refine last_take 0 (some 48) (v := ?_) rfl (by kernel_rfl) (by kernel_rfl) (by kernel_rfl) (by kernel_rfl) (by decide) (by kernel_rfl) (fun _ _ _ h => h) (Or.inl ⟨by kernel_rfl, ?_⟩) (by assumption) ?_; rotate_left; (focus (intro w' hSw; (try dsimp only at hSw); go_simp; (try with_reducible rfl))); (try simp only [Act.put, nA, nB, nC]); refine last_take 1 (some 49) (v := ?_) rfl (by kernel_rfl) (by kernel_rfl) (by kernel_rfl) (by kernel_rfl) (by decide) (by kernel_rfl) (fun _ _ _ h => h) (Or.inl ⟨by kernel_rfl, ?_⟩) (by assumption) ?_; rotate_left; (focus (intro w' hSw; (try dsimp only at hSw); go_simp; (try with_reducible rfl))); (try simp only [Act.put, nA, nB, nC]); refine last_take 2 (some 50) (v := ?_) rfl (by kernel_rfl) (by kernel_rfl) (by kernel_rfl) (by kernel_rfl) (by decide) (by kernel_rfl) (fun _ _ _ h => h) (Or.inl ⟨by kernel_rfl, ?_⟩) (by assumption) ?_; rotate_left; (focus (intro w' hSw; (try dsimp only at hSw); go_simp; (try with_reducible rfl))); (try simp only [Act.put, nA, nB, nC]); refine last_take 3 (some 51) (v := ?_) rfl (by kernel_rfl) (by kernel_rfl) (by kernel_rfl) (by kernel_rfl) (by decide) (by kernel_rfl) (fun _ _ _ h => h) (Or.inl ⟨by kernel_rfl, ?_⟩) (by assumption) ?_; rotate_left; (focus (intro w' hSw; (try dsimp only at hSw); go_simp; (try with_reducible rfl))); (try simp only [Act.put, nA, nB, nC]); refine last_take 4 (some 52) (v := ?_) rfl (by kernel_rfl) (by kernel_rfl) (by kernel_rfl) (by kernel_rfl) (by decide) (by kernel_rfl) (fun _ _ _ h => h) (Or.inl ⟨by kernel_rfl, ?_⟩) (by assumption) ?_; rotate_left; (focus (intro w' hSw; (try dsimp only at hSw); go_simp; (try with_reducible rfl))); (try simp only [Act.put, nA, nB, nC]); refine last_take 5 (some 53) (v := ?_) rfl (by kernel_rfl) (by kernel_rfl) (by kernel_rfl) (by kernel_rfl) (by decide) (by kernel_rfl) (fun _ _ _ h => h) (Or.inl ⟨by kernel_rfl, ?_⟩) (by assumption) ?_; rotate_left; (focus (intro w' hSw; (try dsimp only at hSw); go_simp; (try with_reducible rfl))); (try simp only [Act.put, nA, nB, nC]); refine last_take 6 (some 54) (v := ?_) rfl (by kernel_rfl) (by kernel_rfl) (by kernel_rfl) (by kernel_rfl) (by decide) (by kernel_rfl) (fun _ _ _ h => h) (Or.inl ⟨by kernel_rfl, ?_⟩) (by assumption) ?_; rotate_left; (focus (intro w' hSw; (try dsimp only at hSw); go_simp; (try with_reducible rfl))); (try simp only [Act.put, nA, nB, nC]); refine last_take 7 (some 55) (v := ?_) rfl (by kernel_rfl) (by kernel_rfl) (by kernel_rfl) (by kernel_rfl) (by decide) (by kernel_rfl) (fun _ _ _ h => h) (Or.inl ⟨by kernel_rfl, ?_⟩) (by assumption) ?_; rotate_left; (focus (intro w' hSw; (try dsimp only at hSw); go_simp; (try with_reducible rfl))); (try simp only [Act.put, nA, nB, nC]); refine last_take 8 (some 56) (v := ?_) rfl (by kernel_rfl) (by kernel_rfl) (by kernel_rfl) (by kernel_rfl) (by decide) (by kernel_rfl) (fun _ _ _ h => h) (Or.inl ⟨by kernel_rfl, ?_⟩) (by assumption) ?_; rotate_left; (focus (intro w' hSw; (try dsimp only at hSw); go_simp; (try with_reducible rfl))); (try simp only [Act.put, nA, nB, nC]); refine last_take 9 (some 57) (v := ?_) rfl (by kernel_rfl) (by kernel_rfl) (by kernel_rfl) (by kernel_rfl) (by decide) (by kernel_rfl) (fun _ _ _ h => h) (Or.inl ⟨by kernel_rfl, ?_⟩) (by assumption) ?_; rotate_left; (focus (intro w' hSw; (try dsimp only at hSw); go_simp; (try with_reducible rfl))); (try simp only [Act.put, nA, nB, nC]); refine last_take 10 (some 58) (v := ?_) rfl (by kernel_rfl) (by kernel_rfl) (by kernel_rfl) (by kernel_rfl) (by decide) (by kernel_rfl) (fun _ _ _ h => h) (Or.inl ⟨by kernel_rfl, ?_⟩) (by assumption) ?_; rotate_left; (focus (intro w' hSw; (try dsimp only at hSw); go_simp; (try with_reducible rfl))); (try simp only [Act.put, nA, nB, nC]); refine last_take 12 (some 60) (v := ?_) rfl (by kernel_rfl) (by kernel_rfl) (by kernel_rfl) (by kernel_rfl) (by decide) (by kernel_rfl) (fun _ _ _ h => h) (Or.inl ⟨by kernel_rfl, ?_⟩) (by assumption) ?_; rotate_left; (focus (intro w' hSw; (try dsimp only at hSw); go_simp; (try with_reducible rfl))); (try simp only [Act.put, nA, nB, nC]); refine last_ready (i := 11) (by kernel_rfl) rfl (fun K hK => ?_); go_simp; (go_at_call 75; refine Calls.mono (HLE.out _) ?_; rintro e0 w6 ⟨rfl, hb⟩; have hS := HK2.out _ _ hb hHeld; have HB6 := Lib.hid (show Below w5.heap.size w5 w6 from Below.trans belA (hb.mono (by first | omega | (simp <;> omega)))); clear hb); go_wp2_with fail; refine hK.out _ _ ?_ (fun hHeld => ?_); (focus (first | exact hS | (simp [*, go_sem]; done) | fail)); clear hK K; (try simp only [Act.put, nA, nB, nC]); refine last_end (by kernel_rfl) rfl (fun K hK => ?_); go_simp; (go_at_call 80; refine Calls.mono (bAdd_any _ (w.heap.size + 1) bb 0 0 s C5.1 C5.2 ((0 : Int), (d.1.2.1, LF)) R (HBL5.out.below HB6.out) HFO.out hmi.out HMI.out HLL.out) ?_; rw [← hnx2.out]; rintro e0 w7 ⟨rfl, hBl7, hb⟩; have HBL7 := Lib.hid hBl7; have HB7 := Lib.hid (show Below (w.heap.size + 1) w5 w7 from Below.trans (HB6.out.mono (by omega)) hb); clear hBl7 hb); go_wp2_with fail; refine hK.out _ _ ?_; clear hK K hHeld; (try simp only [Act.put, nA, nB, nC]); refine last_done (by kernel_rfl) ?_ _)
          clear hHeld
          go_wp2_with fail
          go_roundw
          case rel => exact ⟨k + 1, by omega, by go_num, bblk HB7.out (by omega) KR5.out, hnz2, HBL7, HB5w.out.trans (HB7.out.mono (by omega)), Nat.le_trans (by omega) HB7.out.size⟩
          case measure => simp [intOf]; omega
    · have e : k = N := by omega
      subst e
      have hk8 : ¬ (k : Int) < (k : Int) := by omega
      obtain ⟨⟨r0, r1, r2, r3⟩, f0, f1, f2, f3⟩ := blk4 b1
      clear b1
      have htk : Hid ((avX T).take k = avX T) := Lib.hid (List.take_of_length_le (by rw [avX_len, hN.out]; exact Nat.le_refl _))
      have htk2 : Hid (T.take k = T) := Lib.hid (List.take_of_length_le (by rw [hN.out]; exact Nat.le_refl _))
      rw [htk.out] at hBl
      rw [htk2.out] at hZ
      have hav : Hid (avC T = tdC (fI (avX T)).1 (fI (avX T)).2) := Lib.hid (by unfold avC; rw [hZ.out]; rfl)
      have HLL : (fB (avX T)).2.length ≤ 1048576 := by
        have h := fB_len (avX T)
        rw [avX_len, hN.out] at h
        omega
      obtain ⟨C, hC⟩ : ∃ C, Hid (tdC (fI (avX T)).1 (fI (avX T)).2 = C) := ⟨_, Lib.hid rfl⟩
      rw [hC.out] at HCO
      obtain ⟨C5, hC5⟩ : ∃ C5, Hid (fB (avX T) = C5) := ⟨_, Lib.hid rfl⟩
      rw [hC5.out] at hBl HLL HCO
      have HEND := bEnd_any W0 (w.heap.size + 1) bb 0 0 s C5.1 C5.2 hBl.out HLL
      rw [HCO.out.1] at HEND
      have HEND := Lib.hid HEND
      clear hBl HLL
      go_wp2_with fail
      refine Calls.mono HEND.out ?_
      rintro e0 w6 ⟨A5, cap5, F5, rfl, hO5, hb5⟩
      have kr := bblk hb5 y1 B1.out
      have hbb : Below w.heap.size w w6 := hB.trans (hb5.mono hzB)
      have hxl : tdL C (nzT C5.2) = tdL C (nzT (fI (avX T)).2) := by
        by_cases h0 : C = 0
        · rw [HCO.out.2 h0]
        · show (if C = 0 then _ else _) = (if C = 0 then _ else _)
          rw [if_neg h0, if_neg h0]
      rw [hxl] at hO5 ⊢
      obtain ⟨XL, hXL, NX, hNX⟩ : ∃ XL : List Trm, Hid (tdL C (nzT (fI (avX T)).2) = XL) ∧ ∃ NX : Nat, Hid (XL.length = NX) := ⟨_, Lib.hid rfl, _, Lib.hid rfl⟩
      rw [hXL.out] at hO5 ⊢
      rw [hNX.out] at hO5 ⊢
      have HO5 := Lib.hid hO5
      have hzz5 : W0.heap.size ≤ w6.heap.size := hb5.size
      obtain ⟨⟨c50, c51, c52, c53⟩, f50, f51, f52, f53⟩ := blk4 kr
      have zz5 := blklt kr
      clear hO5 hb5 kr r0 r1 r2 r3 f0 f1 f2 f3 hxl
      go_wp2_with fail
      refine bodyPost_ret (v := .tuple #[.agg #[.int .i64 (tdT C (0, 0)).1, .int .u32 (tdT C (0, 0)).2, .int .i64 (tdS C s), .slice A5 NX cap5], .int .i64 C]) (by simp [results, Tryz.results67, go_sem, *]) rfl ?_
      rw [hav.out, hC.out, hXL.out]
      refine ⟨A5, cap5, F5, ?_, ?_, ?_⟩
      · rw [hNX.out]
      · rw [hNX.out]
        refine HO5.out.move (by omega) fun q h1 _ => ?_
        have hne : q ≠ w.heap.size := by omega
        exact (Below.heap_setCell _ ⟨w.heap.size, 3, none⟩ _ q hne).trans ((Below.heap_setCell _ ⟨w.heap.size, 2, none⟩ _ q hne).trans ((Below.heap_setCell _ ⟨w.heap.size, 1, none⟩ _ q hne).trans (Below.heap_setCell _ ⟨w.heap.size, 0, none⟩ _ q hne)))
      · exact belA
end Go.Proofs.YtpcjinbbgnmchaaGreat

import Derived.Test.YtekchdgpaemofaaGreatYyNb
import Derived.Test.YtekchdgpaemofaaGreatYyCe
namespace Go.Proofs.YtekchdgpaemofaaGreat
open Go.ChangeShapes Go.WideShapes Go.ChangeAt Go.RowKit
set_option linter.unusedVariables false
set_option linter.unusedSimpArgs false
attribute [local irreducible] Calls
set_option maxHeartbeats 4000000 in
theorem l06Value_any (w : World) (bl o k q n : Nat) (e : Int) (fs : List Flg) (mt : List (List (Int × Int))) (v u : Value) (hF : Fam fs k q) (hn : n ≤ 5) (hkq : k + q + q ≤ n) (hgo : 0 ≤ e ∧ e ≤ 4294967295) (hL : Lst shFlag w fs v) (hM : Lst (shL shFr) w mt u) (hml : mt.length = fs.length) (hmr : ∀ r ∈ mt, r.length = fs.length ∧ ∀ d ∈ r, inF d) (hc0 : w.cell? ⟨bl, o, none⟩ = some v) (hc1 : w.cell? ⟨bl, o + 1, none⟩ = some u) :
    Calls Tryz.prog 86 #[.pointer (some ⟨bl, o, none⟩), .agg #[.int .i64 n, .int .u32 e]] w fun r w' => r = .returned (.tuple #[.agg #[.int .i64 (rD (bvO mt (matL fs.length fs.length (paD fs n e)))).1, .int .i64 (rD (bvO mt (matL fs.length fs.length (paD fs n e)))).2], .int .i64 (rC (bvO mt (matL fs.length fs.length (paD fs n e))))]) ∧ Below w.heap.size w w' := by
  have HL := Lib.hid hL
  obtain ⟨A0, cap0, rfl, _, _⟩ := formFlag hL
  obtain ⟨A1, cap1, rfl, hcm, hm1, helM⟩ := lstFrSS hM
  obtain ⟨P, hP⟩ : ∃ P, Hid (matL fs.length fs.length (paD fs n e) = P) := ⟨_, Lib.hid rfl⟩
  obtain ⟨N, hN⟩ : ∃ N, Hid (fs.length = N) := ⟨_, Lib.hid rfl⟩
  have hN8 : 0 < N ∧ N ≤ 8 := by rw [← hN.out]; exact ⟨hF.1, hF.2.1⟩
  have HAV : Hid (∀ V, Below w.heap.size w V → Calls Tryz.prog 79 #[.slice A0 N cap0, .agg #[.int .i64 n, .int .u32 e]] V fun r w' => ∃ A cap F, r = .returned (.slice A N cap) ∧ Own (shL shFr) V.heap.size w' P (.slice A N cap) F ∧ Below V.heap.size V w') := Lib.hid fun V hV => by
    have := l04Averages_any V k q n e fs _ hF hn hkq (HL.out.below hV) hgo
    rw [hP.out, hN.out] at this
    exact this
  have HPI : Hid (∀ j, j < N → ∃ t, P[j]? = some t ∧ t.length = N ∧ ∀ d ∈ t, inF d) := Lib.hid fun j hj => by
    rw [← hP.out, hN.out]
    exact matP (fun i j hi hj => paD_in hF hn hkq (by rw [hN.out]; exact hi) (by rw [hN.out]; exact hj)) hj
  have HPL : Hid (P.length = N) := Lib.hid (by rw [← hP.out, matL_len]; exact hN.out)
  rw [hN.out] at hml
  have HMR : Hid (∀ r ∈ mt, r.length = N ∧ ∀ d ∈ r, inF d) := Lib.hid (by rw [← hN.out]; exact hmr)
  rw [hml] at helM hcm hc1
  rw [hN.out] at hP hc0 ⊢
  rw [hP.out]
  have HEM := Lib.hid helM
  have HML := Lib.hid hml
  obtain ⟨hN0, hN2⟩ := hN8
  have zbl := World.block_lt_of_cell? _ _ hc0
  simp only at zbl
  have HC1 := Lib.hid hc1
  clear hF hL hM hmr helM hml hcm hm1 hc1
  go_enter Tryz.func86, Tryz.ntmps86
  go_wp2_with fail
  have HKA : Hid (∀ V w' : World, Below V.heap.size V w' → (fun w' => w'.cell? ⟨bl, o, none⟩ = some (.slice A0 N cap0) ∧ w'.cell? ⟨w.heap.size, 0, none⟩ = some (.int .i64 n) ∧ w'.cell? ⟨w.heap.size, 1, none⟩ = some (.int .u32 e)) V → (fun w' => w'.cell? ⟨bl, o, none⟩ = some (.slice A0 N cap0) ∧ w'.cell? ⟨w.heap.size, 0, none⟩ = some (.int .i64 n) ∧ w'.cell? ⟨w.heap.size, 1, none⟩ = some (.int .u32 e)) w') := Lib.hid fun V w' hb h => by
    simp only at h ⊢
    exact ⟨bkeep hb h.1, bkeep hb h.2.1, bkeep hb h.2.2⟩
  (refine wp_region_held_drew (S := (fun w' => w'.cell? ⟨bl, o, none⟩ = some (.slice A0 N cap0) ∧ w'.cell? ⟨w.heap.size, 0, none⟩ = some (.int .i64 n) ∧ w'.cell? ⟨w.heap.size, 1, none⟩ = some (.int .u32 e))) (by kernel_rfl) ?_ (fun hHeld => ?_); (focus (first | exact hS | (simp [*, go_sem]; done) | fail)); refine rt 0 (some 13) (v := ?_) rfl rfl ?_ ?_; rotate_left; (focus (intro w' hSw; (try dsimp only at hSw); go_simp; (try with_reducible rfl))); (try simp only [Act.put, nA, nB, nC]); refine rt 1 (some 14) (v := ?_) rfl rfl ?_ ?_; rotate_left; (focus (intro w' hSw; (try dsimp only at hSw); go_simp; (try with_reducible rfl))); (try simp only [Act.put, nA, nB, nC]); refine rt 2 (some 15) (v := ?_) rfl rfl ?_ ?_; rotate_left; (focus (intro w' hSw; (try dsimp only at hSw); go_simp; (try with_reducible rfl))); (try simp only [Act.put, nA, nB, nC]); refine rt 3 (some 16) (v := ?_) rfl rfl ?_ ?_; rotate_left; (focus (intro w' hSw; (try dsimp only at hSw); go_simp; (try with_reducible rfl))); (try simp only [Act.put, nA, nB, nC]); refine rt 4 (some 17) (v := ?_) rfl rfl ?_ ?_; rotate_left; (focus (intro w' hSw; (try dsimp only at hSw); go_simp; (try with_reducible rfl))); (try simp only [Act.put, nA, nB, nC]); refine wpAnyH_ready (rs := [5]) (by kernel_rfl) (by simp) ?_; refine AllReadyH.cons rfl (fun K hK => ?_) AllReadyH.nil; go_simp; (go_at_call 79; refine Calls.mono (HAV.out _ belA) ?_; rintro e1 w4 ⟨A4, cap4, F4, rfl, hO4, hb4⟩; have hS := HKA.out _ _ hb4 hHeld; have HB4 := Lib.hid (show Below w.heap.size w w4 from Below.trans belA (hb4.mono (by simp <;> omega))); have HK1 : Hid (w4.heap[w.heap.size + 1]? = some (.cells #[.int .i64 0, .int .i64 0] 54 (0, 0))) := Lib.hid (bblk hb4 (by simp <;> omega) (blkdrew (blknew' _ _ _ (by simp)))); have HO4 := Lib.hid hO4; clear hO4 hb4); go_wp2_with fail; refine hK.out _ _ ?_ (fun hHeld => ?_); (focus (first | exact hS | (simp [*, go_sem]; done) | fail)); clear hK K; (try simp only [Act.put, nA, nB, nC]); refine rt 6 (some 6) (v := ?_) rfl rfl ?_ ?_; rotate_left; (focus (intro w' hSw; (try dsimp only at hSw); go_simp; (try with_reducible rfl))); (try simp only [Act.put, nA, nB, nC]); refine wpAnyH_done (by kernel_rfl) ?_ _)
  clear hHeld
  go_wp2_with fail
  refine Calls.mono (sZero_any _) ?_
  rintro e1 w5 ⟨rfl, hb5⟩
  have HB5 := Lib.hid (HB4.out.trans (hb5.mono HB4.out.size))
  have HK15 := Lib.hid (bblk hb5 (blklt HK1.out) HK1.out)
  have HO5 := Lib.hid (HO4.out.below (Nat.le_refl _) hb5)
  have y1 := blklt HK15.out
  have hz5 := HB5.out.size
  obtain ⟨Q, hQ⟩ : ∃ Q, w5.heap.size = Q := ⟨_, rfl⟩
  have y1q : w.heap.size + 1 < Q := by omega
  clear hb5 HK1 HO4
  go_wp2_with fail
  go_loopw [8] (fun i wr => ∃ (a : Nat) (d : Int × Int), a ≤ N ∧ i = .int .i64 a ∧ Hid (bvT mt P a = some d) ∧ Hid (inF d) ∧ Hid (Below w5.heap.size w5 wr) ∧ wr.heap[Q]? = some (.cells #[.int .i64 d.1, .int .i64 d.2] 54 (0, 0)) ∧ wr.heap[w.heap.size + 1]? = some (.cells #[.int .i64 0, .int .i64 0] 54 (0, 0))) (fun i _ => N - (intOf i).toNat)
  case atStart =>
    have k2 := HK15.out
    exact ⟨0, (0, 1), Nat.zero_le _, rfl, Lib.hid rfl, Lib.hid zero_in, Lib.hid belA, blknew' _ _ _ hQ.symm, blkA⟩
  case round =>
    obtain ⟨a, d, ha, rfl, hI, hdI, hBw, kq, kr⟩ := hrel
    obtain ⟨W0, rfl⟩ : ∃ x, x = wr := ⟨_, rfl⟩
    have yq := blklt kq
    have yr := blklt kr
    have KQ := Lib.hid kq
    have KR := Lib.hid kr
    have hzF := hBw.out.size
    have HBW := Lib.hid (HB5.out.trans (hBw.out.mono hz5))
    by_cases hlt : a < N
    · have hk8 : (a : Int) < (N : Int) := by omega
      obtain ⟨bm, off, rfl, hel⟩ := HEM.out hN0
      obtain ⟨row, vi, hr, hLr, x0⟩ := hel a (by first | exact hlt | (have := HML.out; omega))
      obtain ⟨Ar, capr, rfl, _, _⟩ := formFraction hLr
      obtain ⟨trow, ht, htl, hti⟩ := HPI.out a hlt
      obtain ⟨gt, capt, Ft, vt, hvt, ct, _, hOt, _⟩ := HO5.out.rowFr ht
      injection hvt with e1 e2 e3
      subst e1
      subst e3
      obtain ⟨At, capt2, rfl, _, _⟩ := formFraction hOt.lst
      obtain ⟨hrl, hri⟩ := HMR.out row (List.mem_of_getElem? hr)
      have HRI := Lib.hid hri
      have HTI := Lib.hid hti
      have HR := Lib.hid (hLr.below HBW.out)
      have HT := Lib.hid (hOt.lst.below hBw.out)
      have x0 := bkeep HBW.out x0
      have x1 := bkeep HBW.out HC1.out
      have ct := bkeep hBw.out ct
      have z0 := World.block_lt_of_cell? _ _ x0
      have z1 := World.block_lt_of_cell? _ _ x1
      have zt := World.block_lt_of_cell? _ _ ct
      simp only at z0 z1 zt
      have HNX := Lib.hid (bvT_succ hr ht)
      obtain ⟨lr, hlr⟩ : ∃ lr, Hid (row.length = lr) := ⟨_, Lib.hid rfl⟩
      obtain ⟨lt, hlt2⟩ : ∃ lt, Hid (trow.length = lt) := ⟨_, Lib.hid rfl⟩
      obtain ⟨R, hRr⟩ : ∃ R, Hid (rD (dotO row trow) = R) := ⟨_, Lib.hid rfl⟩
      obtain ⟨RC, hRC⟩ : ∃ RC, Hid (rC (dotO row trow) = RC) := ⟨_, Lib.hid rfl⟩
      rw [hlr.out] at HR x0
      rw [hlt2.out] at HT ct
      have HDOT : Hid (∀ V, Below W0.heap.size W0 V → Calls Tryz.prog 169 #[.slice Ar lr capr, .slice At lt capt2] V fun r w' => r = .returned (.tuple #[.agg #[.int .i64 R.1, .int .i64 R.2], .int .i64 RC]) ∧ Below V.heap.size V w') := Lib.hid fun V hV => by
        have := sDot_any V row trow _ _ (HR.out.below hV) (HT.out.below hV) HRI.out HTI.out (by omega)
        rw [hRr.out, hRC.out] at this
        exact this
      clear hel hLr hr ht hti hri hOt e2 hrl htl kq kr
      have HK6 : Hid (∀ V w' : World, Below V.heap.size V w' → (fun w' => w'.cell? ⟨bl, o + 1, none⟩ = some (.slice (some ⟨bm, off, none⟩) N cap1) ∧ w'.cell? ⟨bm, off + a, none⟩ = some (.slice Ar lr capr) ∧ w'.cell? ⟨gt, a, none⟩ = some (.slice At lt capt2)) V → (fun w' => w'.cell? ⟨bl, o + 1, none⟩ = some (.slice (some ⟨bm, off, none⟩) N cap1) ∧ w'.cell? ⟨bm, off + a, none⟩ = some (.slice Ar lr capr) ∧ w'.cell? ⟨gt, a, none⟩ = some (.slice At lt capt2)) w') := Lib.hid fun V w' hb h => by
        simp only at h ⊢
        exact ⟨bkeep hb h.1, bkeep hb h.2.1, bkeep hb h.2.2⟩
      go_upto_region 6 with fail
      go_cut [9, 10] from 26 to 40 (fun s8 s9 wx => ∃ g8 : Nat, s8 = .pointer (some ⟨g8, 0, none⟩) ∧ s9 = .int .i64 RC ∧ wx.heap[g8]? = some (.cells #[.int .i64 R.1, .int .i64 R.2] 54 (0, 0)) ∧ Below W0.heap.size W0 wx ∧ W0.heap.size ≤ g8)
      case first =>
        (refine wp_region_held_drew (S := (fun w' => w'.cell? ⟨bl, o + 1, none⟩ = some (.slice (some ⟨bm, off, none⟩) N cap1) ∧ w'.cell? ⟨bm, off + a, none⟩ = some (.slice Ar lr capr) ∧ w'.cell? ⟨gt, a, none⟩ = some (.slice At lt capt2))) (by kernel_rfl) ?_ (fun hHeld => ?_); (focus (first | exact hS | exact HK6.out _ _ (bal (Below.refl _ _) _) hHeld | (simp [*, go_sem]; done) | fail)); refine rt 0 (some 27) (v := ?_) rfl rfl ?_ ?_; rotate_left; (focus (intro w' hSw; (try dsimp only at hSw); go_simp; (try with_reducible rfl))); (try simp only [Act.put, nA, nB, nC]); refine rt 1 (some 28) (v := ?_) rfl rfl ?_ ?_; rotate_left; (focus (intro w' hSw; (try dsimp only at hSw); go_simp; (try with_reducible rfl))); (try simp only [Act.put, nA, nB, nC]); refine rt 2 (some 29) (v := ?_) rfl rfl ?_ ?_; rotate_left; (focus (intro w' hSw; (try dsimp only at hSw); go_simp; (try with_reducible rfl))); (try simp only [Act.put, nA, nB, nC]); refine rt 3 (some 30) (v := ?_) rfl rfl ?_ ?_; rotate_left; (focus (intro w' hSw; (try dsimp only at hSw); go_simp; (try with_reducible rfl))); (try simp only [Act.put, nA, nB, nC]); refine rt 4 (some 31) (v := ?_) rfl rfl ?_ ?_; rotate_left; (focus (intro w' hSw; (try dsimp only at hSw); go_simp; (try with_reducible rfl))); (try simp only [Act.put, nA, nB, nC]); refine rt 5 (some 32) (v := ?_) rfl rfl ?_ ?_; rotate_left; (focus (intro w' hSw; (try dsimp only at hSw); go_simp; (try with_reducible rfl))); (try simp only [Act.put, nA, nB, nC]); refine rt 6 (some 33) (v := ?_) rfl rfl ?_ ?_; rotate_left; (focus (intro w' hSw; (try dsimp only at hSw); go_simp; (try with_reducible rfl))); (try simp only [Act.put, nA, nB, nC]); refine rt 7 (some 34) (v := ?_) rfl rfl ?_ ?_; rotate_left; (focus (intro w' hSw; (try dsimp only at hSw); go_simp; (try with_reducible rfl))); (try simp only [Act.put, nA, nB, nC]); refine rt 8 (some 35) (v := ?_) rfl rfl ?_ ?_; rotate_left; (focus (intro w' hSw; (try dsimp only at hSw); go_simp; (try with_reducible rfl))); (try simp only [Act.put, nA, nB, nC]); refine rt 9 (some 36) (v := ?_) rfl rfl ?_ ?_; rotate_left; (focus (intro w' hSw; (try dsimp only at hSw); go_simp; (try with_reducible rfl))); (try simp only [Act.put, nA, nB, nC]); refine rt 10 (some 37) (v := ?_) rfl rfl ?_ ?_; rotate_left; (focus (intro w' hSw; (try dsimp only at hSw); go_simp; (try with_reducible rfl))); (try simp only [Act.put, nA, nB, nC]); refine wpAnyH_ready (rs := [11, 15]) (by kernel_rfl) (by simp) ?_; refine AllReadyH.cons rfl (fun K hK => ?_) (AllReadyH.cons rfl (fun K hK => ?_) AllReadyH.nil); (focus (go_simp; (go_at_call 169; refine Calls.mono (HDOT.out _ belA) ?_; rintro e0 w4 ⟨rfl, hb⟩; have hS := HK6.out _ _ hb hHeld; have HB4 := Lib.hid (show Below W0.heap.size W0 w4 from Below.trans belA (hb.mono (by first | omega | (simp <;> omega)))); (try (have kz := bblk hb (blklt kp) kp; clear kp; have kp := kz; clear kz; obtain ⟨pz0, pz1, pf0, pf1⟩ := blk2 kp; have pzz := blklt kp)); have hz4 := HB4.out.size; have y40 : bl < w4.heap.size := (by omega); have y41 : bm < w4.heap.size := (by omega); have y42 : gt < w4.heap.size := (by omega); clear hb); go_wp2_with fail; refine hK.out _ _ ?_ (fun hHeld => ?_); (focus (first | exact hS | exact HK6.out _ _ (bal (Below.refl _ _) _) hHeld | (simp [*, go_sem]; done) | fail)); clear hK K; (try simp only [Act.put, nA, nB, nC]); refine rt 12 (some 26) (v := ?_) rfl rfl ?_ ?_; rotate_left; (focus (intro w' hSw; (try dsimp only at hSw); go_simp; (try with_reducible rfl))); (try simp only [Act.put, nA, nB, nC]); refine rt 13 (some 39) (v := ?_) rfl rfl ?_ ?_; rotate_left; (focus (intro w' hSw; (try dsimp only at hSw); go_simp; (try with_reducible rfl))); (try simp only [Act.put, nA, nB, nC]); refine rt 14 (some 40) (v := ?_) rfl rfl ?_ ?_; rotate_left; (focus (intro w' hSw; (try dsimp only at hSw); go_simp; (try with_reducible rfl))); (try simp only [Act.put, nA, nB, nC]); refine wpAnyH_ready (rs := [15]) (by kernel_rfl) (by simp) ?_; refine AllReadyH.cons rfl (fun K hK => ?_) AllReadyH.nil; (try go_simp); refine hK.out _ _ ?_ (fun hHeld => ?_); (focus (first | exact hS | exact HK6.out _ _ (bal (Below.refl _ _) _) hHeld | (simp [*, go_sem]; done) | fail)); clear hK K; (try simp only [Act.put, nA, nB, nC]); refine wpAnyH_ready (rs := [16]) (by kernel_rfl) (by simp) ?_; refine AllReadyH.cons rfl (fun K hK => ?_) AllReadyH.nil; (try go_simp); refine hK.out _ _ ?_ (fun hHeld => ?_); (focus (first | exact hS | exact HK6.out _ _ (bal (Below.refl _ _) _) hHeld | (simp [*, go_sem]; done) | fail)); clear hK K; (try simp only [Act.put, nA, nB, nC]); refine rt 17 (some 10) (v := ?_) rfl rfl ?_ ?_; rotate_left; (focus (intro w' hSw; (try dsimp only at hSw); go_simp; (try with_reducible rfl))); (try simp only [Act.put, nA, nB, nC]); refine wpAnyH_done (by kernel_rfl) ?_ _)); rotate_left 1; (focus (((try go_simp); have hS := HK6.out _ _ (bal (Below.refl W0.drew.heap.size W0.drew) (.cells #[.int .i64 0, .int .i64 0] 54)) hHeld; have kp : (W0.drew.alloc (.cells #[.int .i64 0, .int .i64 0] 54)).heap[W0.heap.size]? = _ := blknew W0.drew _; have hnb : W0.heap.size ≤ W0.heap.size := Nat.le_refl _); refine hK.out _ _ ?_ (fun hHeld => ?_); (focus (first | exact hS | exact HK6.out _ _ (bal (Below.refl _ _) _) hHeld | (simp [*, go_sem]; done) | fail)); clear hK K; (try simp only [Act.put, nA, nB, nC]); refine wpAnyH_ready (rs := [11]) (by kernel_rfl) (by simp) ?_; refine AllReadyH.cons rfl (fun K hK => ?_) AllReadyH.nil; go_simp; (go_at_call 169; refine Calls.mono (HDOT.out _ belA) ?_; rintro e0 w4 ⟨rfl, hb⟩; have hS := HK6.out _ _ hb hHeld; have HB4 := Lib.hid (show Below W0.heap.size W0 w4 from Below.trans belA (hb.mono (by first | omega | (simp <;> omega)))); (try (have kz := bblk hb (blklt kp) kp; clear kp; have kp := kz; clear kz; obtain ⟨pz0, pz1, pf0, pf1⟩ := blk2 kp; have pzz := blklt kp)); have hz4 := HB4.out.size; have y40 : bl < w4.heap.size := (by omega); have y41 : bm < w4.heap.size := (by omega); have y42 : gt < w4.heap.size := (by omega); clear hb); go_wp2_with fail; refine hK.out _ _ ?_ (fun hHeld => ?_); (focus (first | exact hS | exact HK6.out _ _ (bal (Below.refl _ _) _) hHeld | (simp [*, go_sem]; done) | fail)); clear hK K; (try simp only [Act.put, nA, nB, nC]); refine rt 12 (some 26) (v := ?_) rfl rfl ?_ ?_; rotate_left; (focus (intro w' hSw; (try dsimp only at hSw); go_simp; (try with_reducible rfl))); (try simp only [Act.put, nA, nB, nC]); refine rt 13 (some 39) (v := ?_) rfl rfl ?_ ?_; rotate_left; (focus (intro w' hSw; (try dsimp only at hSw); go_simp; (try with_reducible rfl))); (try simp only [Act.put, nA, nB, nC]); refine rt 14 (some 40) (v := ?_) rfl rfl ?_ ?_; rotate_left; (focus (intro w' hSw; (try dsimp only at hSw); go_simp; (try with_reducible rfl))); (try simp only [Act.put, nA, nB, nC]); refine wpAnyH_ready (rs := [16]) (by kernel_rfl) (by simp) ?_; refine AllReadyH.cons rfl (fun K hK => ?_) AllReadyH.nil; (try go_simp); refine hK.out _ _ ?_ (fun hHeld => ?_); (focus (first | exact hS | exact HK6.out _ _ (bal (Below.refl _ _) _) hHeld | (simp [*, go_sem]; done) | fail)); clear hK K; (try simp only [Act.put, nA, nB, nC]); refine rt 17 (some 10) (v := ?_) rfl rfl ?_ ?_; rotate_left; (focus (intro w' hSw; (try dsimp only at hSw); go_simp; (try with_reducible rfl))); (try simp only [Act.put, nA, nB, nC]); refine wpAnyH_done (by kernel_rfl) ?_ _)); rotate_left 1)
        all_goals
          clear hHeld
          have hb4 := HB4.out
          go_wp2_with fail
          go_meet
          exact ⟨_, rfl, rfl, blkA, belA, (by first | omega | (simp <;> omega))⟩
      case rest =>
        obtain ⟨g8, rfl, rfl, k8, hBx, hg8⟩ := hcut
        obtain ⟨w6, rfl⟩ : ∃ z, z = wc := ⟨_, rfl⟩
        have HB6 := Lib.hid (hBw.out.trans (hBx.mono hzF))
        have HB6w := Lib.hid (HB5.out.trans (HB6.out.mono hz5))
        have hz6 := hBx.size
        obtain ⟨u0, u1⟩ := blkc2 k8
        have y8 := blklt k8
        have KQ6 := Lib.hid (bblk hBx yq KQ.out)
        have KR6 := Lib.hid (bblk hBx yr KR.out)
        obtain ⟨q0, q1⟩ := blkc2 KQ6.out
        have yq6 := blklt KQ6.out
        obtain ⟨r0, r1, r2, r3⟩ := blk2 KR6.out
        have yr6 := blklt KR6.out
        clear k8 hBx
        cases hm : dotO row trow with
        | none =>
          have hR0 : R = (0, 0) := by rw [← hRr.out, hm]; rfl
          have hC0 : RC = 3 := by rw [← hRC.out, hm]; rfl
          have hr : Hid (bvO mt P = none) := Lib.hid (bvT_none (k := a + 1) (by rw [HNX.out, hI.out]; unfold bvS; rw [hm]; rfl))
          have hb6 := HB6w.out
          subst hR0
          subst hC0
          clear hm
          go_wp2_with fail
          exact bodyPost_ret (v := .tuple #[.agg #[.int .i64 0, .int .i64 0], .int .i64 3]) (by simp [results, Tryz.results86, go_sem, *]) rfl ⟨by rw [hr.out]; rfl, belA⟩
        | some mm =>
          have hR0 : R = mm := by rw [← hRr.out, hm]; rfl
          have hC0 : RC = 0 := by rw [← hRC.out, hm]; rfl
          have hmi : Hid (inF mm) := Lib.hid (dotO_in HRI.out HTI.out hm)
          have HNX2 : Hid (bvT mt P (a + 1) = addO d mm) := Lib.hid (by rw [HNX.out, hI.out]; unfold bvS; rw [hm]; rfl)
          subst hR0
          subst hC0
          clear hm r0 r1 r2 r3
          obtain ⟨R2, hR2⟩ : ∃ R2, Hid (rD (addO d R) = R2) := ⟨_, Lib.hid rfl⟩
          obtain ⟨RC2, hRC2⟩ : ∃ RC2, Hid (rC (addO d R) = RC2) := ⟨_, Lib.hid rfl⟩
          have HADD : Hid (∀ V, Calls Tryz.prog 130 #[.agg #[.int .i64 d.1, .int .i64 d.2], .agg #[.int .i64 R.1, .int .i64 R.2]] V fun r w' => r = .returned (.tuple #[.agg #[.int .i64 R2.1, .int .i64 R2.2], .int .i64 RC2]) ∧ Below V.heap.size V w') := Lib.hid fun V => by
            have := radd_any d R V hdI.out hmi.out
            rw [hR2.out, hRC2.out] at this
            exact this
          go_wp2_with fail
          refine Calls.mono (HADD.out _) ?_
          rintro e0 w7 ⟨rfl, hb7⟩
          have HB7 := Lib.hid (HB6.out.trans (hb7.mono (by omega)))
          have HB7w := Lib.hid (HB5.out.trans (HB7.out.mono hz5))
          have hz7 := hb7.size
          have KQ7 := Lib.hid (bblk hb7 yq6 KQ6.out)
          have KR7 := Lib.hid (bblk hb7 yr6 KR6.out)
          obtain ⟨q0, q1, q2, q3⟩ := blk2 KQ7.out
          have yq7 := blklt KQ7.out
          obtain ⟨r0, r1, r2, r3⟩ := blk2 KR7.out
          have yr7 := blklt KR7.out
          clear hb7
          cases hm : addO d R with
          | none =>
            have hR0 : R2 = (0, 0) := by rw [← hR2.out, hm]; rfl
            have hC0 : RC2 = 3 := by rw [← hRC2.out, hm]; rfl
            have hr : Hid (bvO mt P = none) := Lib.hid (bvT_none (k := a + 1) (by rw [HNX2.out, hm]))
            have hb7 := HB7w.out
            subst hR0
            subst hC0
            clear hm
            go_wp2_with fail
            exact bodyPost_ret (v := .tuple #[.agg #[.int .i64 0, .int .i64 0], .int .i64 3]) (by simp [results, Tryz.results86, go_sem, *]) rfl ⟨by rw [hr.out]; rfl, belA⟩
          | some zz =>
            have hR0 : R2 = zz := by rw [← hR2.out, hm]; rfl
            have hC0 : RC2 = 0 := by rw [← hRC2.out, hm]; rfl
            have hzi : Hid (inF zz) := Lib.hid (addO_in hdI.out.2.2.1 hmi.out.2.2.1 hm)
            have HNX3 : Hid (bvT mt P (a + 1) = some zz) := Lib.hid (by rw [HNX2.out, hm])
            subst hR0
            subst hC0
            clear hm r0 r1 r2 r3
            go_wp2_with fail
            go_roundw
            case rel =>
              have kq7 := KQ7.out
              have kr7 := KR7.out
              have hb7 := HB7.out
              exact ⟨a + 1, R2, by omega, by go_num, HNX3, hzi, Lib.hid (bal (Below.setCell (Below.setCell HB7.out (by show w5.heap.size ≤ Q; omega) _) (by show w5.heap.size ≤ Q; omega) _) _), blkal (blkset2 KQ7.out _ _) _, blkal (blkset (blkset KR7.out (by show w.heap.size + 1 ≠ Q; omega) _) (by show w.heap.size + 1 ≠ Q; omega) _) _⟩
            case measure => simp [intOf]; omega
    · have ee : a = N := by omega
      subst ee
      have hr : Hid (bvO mt P = some d) := Lib.hid (by rw [← bvT_all (k := a) (by have := HML.out; omega)]; exact hI.out)
      obtain ⟨q0, q1⟩ := blkc2 kq
      obtain ⟨r0, r1, r2, r3⟩ := blk2 kr
      have hbw := HBW.out
      clear kq kr
      go_wp2_with fail
      exact bodyPost_ret (v := .tuple #[.agg #[.int .i64 d.1, .int .i64 d.2], .int .i64 0]) (by simp [results, Tryz.results86, go_sem, *]) rfl ⟨by rw [hr.out]; rfl, belA⟩
set_option maxHeartbeats 2000000 in
theorem sBlockValue_any (w : World) (fs : List Flg) (mt : List (List (Int × Int))) (n e : Int) (v u : Value) (h : Lst shFlag w fs v) (hm : Lst (shL shFr) w mt u) (hgo : 0 ≤ e ∧ e ≤ 4294967295) :
    Calls Tryz.prog 28 #[.agg #[v, u], .agg #[.int .i64 n, .int .u32 e]] w fun r w' => r = .returned (.tuple #[.agg #[.int .i64 (cP (bkC fs mt n e) (bkO fs mt n e)), .int .i64 (cQ (bkC fs mt n e) (bkO fs mt n e))], .int .i64 (cC (bkC fs mt n e) (bkO fs mt n e))]) ∧ Below w.heap.size w w' := by
  have H1 := Lib.hid h
  have H2 := Lib.hid hm
  have HGO := Lib.hid hgo
  obtain ⟨A, cap, rfl, _, _, hok, _⟩ := lstFlag h
  obtain ⟨A2, cap2, rfl, _, _⟩ := formFrSS hm
  have HOK := Lib.hid hok
  obtain ⟨nf, hnf⟩ : ∃ nf, Hid (fs.length = nf) := ⟨_, Lib.hid rfl⟩
  obtain ⟨nm, hnm⟩ : ∃ nm, Hid (mt.length = nm) := ⟨_, Lib.hid rfl⟩
  rw [hnf.out] at H1 ⊢
  rw [hnm.out] at H2 ⊢
  clear h hm hok hgo
  obtain ⟨BB, hBB⟩ : ∃ BB, Hid (blkOk fs mt = BB) := ⟨_, Lib.hid rfl⟩
  have HBB : Hid (∀ V b, Below w.heap.size w V → V.heap[b]? = some (.cells #[.slice A nf cap, .slice A2 nm cap2] 58 (0, 0)) → Calls Tryz.prog 84 #[.pointer (some ⟨b, 0, none⟩)] V fun r w' => r = .returned (.bool BB) ∧ Below V.heap.size V w') := Lib.hid fun V b hV hb => by
    have := l06BlockO_any V b 0 fs mt _ _ (blkc2 hb).1 (blkc2 hb).2 (H1.out.below hV) (H2.out.below hV)
    rw [hBB.out] at this
    exact this
  obtain ⟨GG, hGG⟩ : ∃ GG, Hid (grOk n e = GG) := ⟨_, Lib.hid rfl⟩
  have HGR : Hid (∀ V, Calls Tryz.prog 77 #[.agg #[.int .i64 n, .int .u32 e]] V fun r w' => r = .returned (.bool GG) ∧ Below V.heap.size V w') := Lib.hid fun V => by
    have := l01Ok_any n e V HGO.out
    rw [hGG.out] at this
    exact this
  cases BB
  · have hc : bkC fs mt n e = 1 := by unfold bkC; rw [hBB.out]; rfl
    rw [hc]
    clear hc
    go_enter Tryz.func28, Tryz.ntmps28
    go_wp2_with (first | (go_at_call 84; refine Calls.mono (HBB.out _ _ belA blkA) ?_; rintro e w1 ⟨rfl, hb⟩; obtain ⟨X, m, rfl⟩ := plsOf hb; clear hb))
    exact bodyPost_ret (v := .tuple #[.agg #[.int .i64 0, .int .i64 0], .int .i64 1]) (by simp [results, Tryz.results28, go_sem]) rfl ⟨rfl, belA⟩
  cases GG
  · have hc : bkC fs mt n e = 1 := by unfold bkC; rw [hGG.out, Bool.and_false]; rfl
    rw [hc]
    clear hc
    go_enter Tryz.func28, Tryz.ntmps28
    go_wp2_with (first | (go_at_call 84; refine Calls.mono (HBB.out _ _ belA blkA) ?_; rintro e w1 ⟨rfl, hb⟩; obtain ⟨X, m, rfl⟩ := plsOf hb; clear hb) | (go_at_call 77; refine Calls.mono (HGR.out _) ?_; rintro e w1 ⟨rfl, hb⟩; obtain ⟨X, m, rfl⟩ := plsOf hb; clear hb))
    exact bodyPost_ret (v := .tuple #[.agg #[.int .i64 0, .int .i64 0], .int .i64 1]) (by simp [results, Tryz.results28, go_sem]) rfl ⟨rfl, belA⟩
  have hb := hBB.out
  have hg := hGG.out
  obtain ⟨hml, hmr, k, q, hF, hrm⟩ := blk_fam hb HOK.out
  obtain ⟨m, rfl, hm5⟩ := gr_n hg
  obtain ⟨RM, hRM⟩ : ∃ RM, Hid (roomB fs = RM) := ⟨_, Lib.hid rfl⟩
  have HRM : Hid (∀ V b, Below w.heap.size w V → V.heap[b]? = some (.cells #[.slice A nf cap, .slice A2 nm cap2] 58 (0, 0)) → Calls Tryz.prog 85 #[.pointer (some ⟨b, 0, none⟩)] V fun r w' => r = .returned (.int .i64 RM) ∧ Below V.heap.size V w') := Lib.hid fun V b hV hbb => by
    have := sroom_any V b 0 fs _ (blkc2 hbb).1 (H1.out.below hV) (blk_hd hb).1 (blk_hd hb).2
    rw [hRM.out] at this
    exact this
  rw [hRM.out] at hrm
  have hcc : bkC fs mt m e = if (m : Int) < RM then 2 else 0 := by unfold bkC; rw [hb, hg, hRM.out]; rfl
  by_cases hlt : (m : Int) < RM
  · have hc : bkC fs mt m e = 2 := by rw [hcc, if_pos hlt]
    rw [hc]
    clear hb hc hg hcc hml hmr hF hrm
    go_enter Tryz.func28, Tryz.ntmps28
    go_wp2_with (first | (go_at_call 84; refine Calls.mono (HBB.out _ _ belA blkA) ?_; rintro e w1 ⟨rfl, hb⟩; obtain ⟨X1, m1, rfl⟩ := plsOf hb; clear hb) | (go_at_call 77; refine Calls.mono (HGR.out _) ?_; rintro e w1 ⟨rfl, hb⟩; obtain ⟨X2, m2, rfl⟩ := plsOf hb; clear hb))
    (refine wp_region_held_drew (S := (fun w' => w'.cell? ⟨w.heap.size + 1, 0, none⟩ = some (.int .i64 (m : Int)))) (by kernel_rfl) ?_ (fun hHeld => ?_); (focus (first | exact hS | (simp [*, go_sem]; done) | fail)); refine rt 0 (some 14) (v := ?_) rfl rfl ?_ ?_; rotate_left; (focus (intro w' hSw; (try dsimp only at hSw); go_simp; (try with_reducible rfl))); (try simp only [Act.put, nA, nB, nC]); refine rt 1 (some 15) (v := ?_) rfl rfl ?_ ?_; rotate_left; (focus (intro w' hSw; (try dsimp only at hSw); go_simp; (try with_reducible rfl))); (try simp only [Act.put, nA, nB, nC]); refine wpAnyH_ready (rs := [2]) (by kernel_rfl) (by simp) ?_; refine AllReadyH.cons rfl (fun K hK => ?_) AllReadyH.nil; go_simp; (go_at_call 85; refine Calls.mono (HRM.out _ _ belA blkA) ?_; rintro e0 w3 ⟨rfl, hb⟩; have hS := bkeep hb hHeld; have HB3 := Lib.hid (show Below w.heap.size w w3 from Below.trans belA (hb.mono (by simp <;> omega))); have KB3 : Hid (w3.heap[w.heap.size]? = some (.cells #[.slice A nf cap, .slice A2 nm cap2] 58 (0, 0))) := Lib.hid (bblk hb (by simp <;> omega) blkA); have KG3 : Hid (w3.heap[w.heap.size + 1]? = some (.cells #[.int .i64 m, .int .u32 e] 28 (0, 0))) := Lib.hid (bblk hb (by simp <;> omega) blkA); have KR3 : Hid (w3.heap[w.heap.size + 1 + 1]? = some (.cells #[.int .i64 0, .int .i64 0] 54 (0, 0))) := Lib.hid (bblk hb (by simp <;> omega) blkA); clear hb); go_wp2_with fail; refine hK.out _ _ ?_ (fun hHeld => ?_); (focus (first | exact hS | (simp [*, go_sem]; done) | fail)); clear hK K; (try simp only [Act.put, nA, nB, nC]); refine rt 3 (some 17) (v := ?_) rfl rfl ?_ ?_; rotate_left; (focus (intro w' hSw; (try dsimp only at hSw); go_simp; (try with_reducible rfl))); (try simp only [Act.put, nA, nB, nC]); refine wpAnyH_done (by kernel_rfl) ?_ _)
    obtain ⟨r0, r1, r2, r3⟩ := blk2 KR3.out
    have yr := blklt KR3.out
    have hb3 := HB3.out
    clear hHeld
    go_wp2_with fail
    exact bodyPost_ret (v := .tuple #[.agg #[.int .i64 0, .int .i64 0], .int .i64 2]) (by simp [results, Tryz.results28, go_sem, *]) rfl ⟨rfl, belA⟩
  have hc : bkC fs mt m e = 0 := by rw [hcc, if_neg hlt]
  obtain ⟨BO, hBO⟩ : ∃ BO, Hid (bkO fs mt m e = BO) := ⟨_, Lib.hid rfl⟩
  have HVL : Hid (∀ V b, Below w.heap.size w V → V.heap[b]? = some (.cells #[.slice A nf cap, .slice A2 nm cap2] 58 (0, 0)) → Calls Tryz.prog 86 #[.pointer (some ⟨b, 0, none⟩), .agg #[.int .i64 m, .int .u32 e]] V fun r w' => r = .returned (.tuple #[.agg #[.int .i64 (rD BO).1, .int .i64 (rD BO).2], .int .i64 (rC BO)]) ∧ Below V.heap.size V w') := Lib.hid fun V b hV hbb => by
    have := l06Value_any V b 0 k q m e fs mt _ _ hF hm5 (by omega) HGO.out (H1.out.below hV) (H2.out.below hV) hml hmr (blkc2 hbb).1 (blkc2 hbb).2
    rw [← hBO.out]
    exact this
  rw [hc, cP_0, cQ_0, cC_0, hBO.out]
  clear hb hc hg hcc hml hmr hF hrm
  go_enter Tryz.func28, Tryz.ntmps28
  go_wp2_with (first | (go_at_call 84; refine Calls.mono (HBB.out _ _ belA blkA) ?_; rintro e w1 ⟨rfl, hb⟩; obtain ⟨X1, m1, rfl⟩ := plsOf hb; clear hb) | (go_at_call 77; refine Calls.mono (HGR.out _) ?_; rintro e w1 ⟨rfl, hb⟩; obtain ⟨X2, m2, rfl⟩ := plsOf hb; clear hb))
  (refine wp_region_held_drew (S := (fun w' => w'.cell? ⟨w.heap.size + 1, 0, none⟩ = some (.int .i64 (m : Int)))) (by kernel_rfl) ?_ (fun hHeld => ?_); (focus (first | exact hS | (simp [*, go_sem]; done) | fail)); refine rt 0 (some 14) (v := ?_) rfl rfl ?_ ?_; rotate_left; (focus (intro w' hSw; (try dsimp only at hSw); go_simp; (try with_reducible rfl))); (try simp only [Act.put, nA, nB, nC]); refine rt 1 (some 15) (v := ?_) rfl rfl ?_ ?_; rotate_left; (focus (intro w' hSw; (try dsimp only at hSw); go_simp; (try with_reducible rfl))); (try simp only [Act.put, nA, nB, nC]); refine wpAnyH_ready (rs := [2]) (by kernel_rfl) (by simp) ?_; refine AllReadyH.cons rfl (fun K hK => ?_) AllReadyH.nil; go_simp; (go_at_call 85; refine Calls.mono (HRM.out _ _ belA blkA) ?_; rintro e0 w3 ⟨rfl, hb⟩; have hS := bkeep hb hHeld; have HB3 := Lib.hid (show Below w.heap.size w w3 from Below.trans belA (hb.mono (by simp <;> omega))); have KB3 : Hid (w3.heap[w.heap.size]? = some (.cells #[.slice A nf cap, .slice A2 nm cap2] 58 (0, 0))) := Lib.hid (bblk hb (by simp <;> omega) blkA); have KG3 : Hid (w3.heap[w.heap.size + 1]? = some (.cells #[.int .i64 m, .int .u32 e] 28 (0, 0))) := Lib.hid (bblk hb (by simp <;> omega) blkA); have KR3 : Hid (w3.heap[w.heap.size + 1 + 1]? = some (.cells #[.int .i64 0, .int .i64 0] 54 (0, 0))) := Lib.hid (bblk hb (by simp <;> omega) blkA); clear hb); go_wp2_with fail; refine hK.out _ _ ?_ (fun hHeld => ?_); (focus (first | exact hS | (simp [*, go_sem]; done) | fail)); clear hK K; (try simp only [Act.put, nA, nB, nC]); refine rt 3 (some 17) (v := ?_) rfl rfl ?_ ?_; rotate_left; (focus (intro w' hSw; (try dsimp only at hSw); go_simp; (try with_reducible rfl))); (try simp only [Act.put, nA, nB, nC]); refine wpAnyH_done (by kernel_rfl) ?_ _)
  obtain ⟨g0, g1⟩ := blkc2 KG3.out
  have yg := blklt KG3.out
  have hb3 := HB3.out
  clear hHeld
  go_wp2_with fail
  refine Calls.mono (HVL.out _ _ hb3 KB3.out) ?_
  rintro e0 w4 ⟨rfl, hb4⟩
  have HB4 := Lib.hid (hb3.trans (hb4.mono hb3.size))
  have KR4 := Lib.hid (bblk hb4 (blklt KR3.out) KR3.out)
  obtain ⟨r0, r1, r2, r3⟩ := blk2 KR4.out
  have yr := blklt KR4.out
  clear hb4 hb3
  have hb4 := HB4.out
  go_wp2_with fail
  exact bodyPost_ret (v := .tuple #[.agg #[.int .i64 (rD BO).1, .int .i64 (rD BO).2], .int .i64 (rC BO)]) (by simp [results, Tryz.results28, go_sem, *]) rfl ⟨rfl, belA⟩
end Go.Proofs.YtekchdgpaemofaaGreat

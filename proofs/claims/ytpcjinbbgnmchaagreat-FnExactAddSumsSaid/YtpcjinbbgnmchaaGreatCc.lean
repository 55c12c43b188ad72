/- The sum of two sums: spec.l05Add, spec.AddSums. -/
import Derived.Test.YtpcjinbbgnmchaaGreatCb
import Derived.Test.YtpcjinbbgnmchaaGreatVt
namespace Go.Proofs.YtpcjinbbgnmchaaGreat
open Go.ChangeShapes Go.WideShapes Go.RowKit
set_option linter.unusedVariables false
set_option linter.unusedSimpArgs false
attribute [local irreducible] Calls
set_option maxHeartbeats 8000000 in
set_option maxRecDepth 100000 in
theorem l05Add_any (w : World) (ba bc : Nat) (tn te s : Int) (T : List Trm) (v : Value) (U : List Trm) (u : Value) (hba : w.heap[ba]? = some (.cells #[.int .i64 tn, .int .u32 te, .int .i64 s, v] 34 (0, 0))) (hbc : w.heap[bc]? = some (.cells #[.int .i64 tn, .int .u32 te, .int .i64 s, u] 34 (0, 0))) (hT : Lst shTerm w T v) (hU : Lst shTerm w U u) (h1 : sumOk tn te s T = true) (h2 : sumOk tn te s U = true) :
    Calls Tryz.prog 49 #[.pointer (some ⟨ba, 0, none⟩), .pointer (some ⟨bc, 0, none⟩)] w (SumRet w.heap.size w (tdC (fI (T ++ U)).1 (fI (T ++ U)).2) (tdT (tdC (fI (T ++ U)).1 (fI (T ++ U)).2) (tn, te)) (tdS (tdC (fI (T ++ U)).1 (fI (T ++ U)).2) s) (tdL (tdC (fI (T ++ U)).1 (fI (T ++ U)).2) (nzT (fI (T ++ U)).2))) := by
  obtain ⟨A, cap, rfl, _, _, hoT, helT⟩ := lstTerm hT
  obtain ⟨A', cap', rfl, _, _, hoU, helU⟩ := lstTerm hU
  have hlT : T.length ≤ 64 := (sumOk_iff.1 h1).2.2.1
  have hlU : U.length ≤ 64 := (sumOk_iff.1 h2).2.2.1
  have HFR := Lib.hid (sums_frame h1 h2)
  have HCO := Lib.hid (fI_code (sums_frame h1 h2))
  obtain ⟨N, hN⟩ : ∃ N : Nat, Hid (T.length = N) := ⟨_, Lib.hid rfl⟩
  obtain ⟨M, hM⟩ : ∃ M : Nat, Hid (U.length = M) := ⟨_, Lib.hid rfl⟩
  rw [hN.out] at helT hlT hba
  rw [hM.out] at helU hlU hbc
  have HET := Lib.hid helT
  have HEU := Lib.hid helU
  have HOT := Lib.hid hoT
  have HOU := Lib.hid hoU
  obtain ⟨C, hC⟩ : ∃ C, Hid (tdC (fI (T ++ U)).1 (fI (T ++ U)).2 = C) := ⟨_, Lib.hid rfl⟩
  rw [hC.out] at HCO ⊢
  have ya := blklt hba
  have yc := blklt hbc
  obtain ⟨a0, a1, a2, a3⟩ := blkc4 hba
  have KA := Lib.hid hba
  have KC := Lib.hid hbc
  clear hT hU h1 h2 hoT hoU helT helU hba hbc
  have HKP : Hid (∀ V V' : World, Below V.heap.size V V' → (fun w' => w'.cell? ⟨ba, 0, none⟩ = some (.int .i64 tn) ∧ w'.cell? ⟨ba, 1, none⟩ = some (.int .u32 te) ∧ w'.cell? ⟨ba, 2, none⟩ = some (.int .i64 s)) V → (fun w' => w'.cell? ⟨ba, 0, none⟩ = some (.int .i64 tn) ∧ w'.cell? ⟨ba, 1, none⟩ = some (.int .u32 te) ∧ w'.cell? ⟨ba, 2, none⟩ = some (.int .i64 s)) V') := Lib.hid fun V V' hb h => ⟨bkeep hb h.1, bkeep hb h.2.1, bkeep hb h.2.2⟩
  go_enter Tryz.func49, Tryz.ntmps49
  go_wp2_with fail
  (refine wp_region_held_drew (S := (fun w' => w'.cell? ⟨ba, 0, none⟩ = some (.int .i64 tn) ∧ w'.cell? ⟨ba, 1, none⟩ = some (.int .u32 te) ∧ w'.cell? ⟨ba, 2, none⟩ = some (.int .i64 s))) (by kernel_rfl) ?_ (fun hHeld => ?_); (focus (first | exact hS | (simp [*, go_sem]; done) | fail)); refine rt 0 (some 9) (v := ?_) rfl rfl ?_ ?_; rotate_left; (focus (intro w' hSw; (try dsimp only at hSw); go_simp; (try with_reducible rfl))); (try simp only [Act.put, nA, nB, nC]); refine rt 1 (some 10) (v := ?_) rfl rfl ?_ ?_; rotate_left; (focus (intro w' hSw; (try dsimp only at hSw); go_simp; (try with_reducible rfl))); (try simp only [Act.put, nA, nB, nC]); refine rt 2 (some 11) (v := ?_) rfl rfl ?_ ?_; rotate_left; (focus (intro w' hSw; (try dsimp only at hSw); go_simp; (try with_reducible rfl))); (try simp only [Act.put, nA, nB, nC]); refine rt 3 (some 12) (v := ?_) rfl rfl ?_ ?_; rotate_left; (focus (intro w' hSw; (try dsimp only at hSw); go_simp; (try with_reducible rfl))); (try simp only [Act.put, nA, nB, nC]); refine rt 4 (some 13) (v := ?_) rfl rfl ?_ ?_; rotate_left; (focus (intro w' hSw; (try dsimp only at hSw); go_simp; (try with_reducible rfl))); (try simp only [Act.put, nA, nB, nC]); refine rt 5 (some 14) (v := ?_) rfl rfl ?_ ?_; rotate_left; (focus (intro w' hSw; (try dsimp only at hSw); go_simp; (try with_reducible rfl))); (try simp only [Act.put, nA, nB, nC]); refine rt 6 (some 15) (v := ?_) rfl rfl ?_ ?_; rotate_left; (focus (intro w' hSw; (try dsimp only at hSw); go_simp; (try with_reducible rfl))); (try simp only [Act.put, nA, nB, nC]); refine rt 7 (some 16) (v := ?_) rfl rfl ?_ ?_; rotate_left; (focus (intro w' hSw; (try dsimp only at hSw); go_simp; (try with_reducible rfl))); (try simp only [Act.put, nA, nB, nC]); refine wpAnyH_ready (rs := [8]) (by kernel_rfl) (by simp) ?_; refine AllReadyH.cons rfl (fun K hK => ?_) AllReadyH.nil; go_simp; (go_at_call 78; refine Calls.mono (bBegin_any _ tn te s) ?_; rintro e0 w1 ⟨bb, rfl, hBl, hb⟩; have hS := HKP.out _ _ hb hHeld; have k1 : w1.heap[w.heap.size]? = some (.cells #[.int .i64 0, .int .u32 0, .int .i64 0, .slice none 0 0] 34 (0, 0)) := bblk hb (by simp) (blkdrew (blknew w _)); have K1 := Lib.hid k1; have HB1 := Lib.hid (show Below w.heap.size w w1 from Below.trans (bdrew1 (bal (Below.refl _ w) _)) (hb.mono (by simp))); have HBL : Hid (Bld (w.heap.size + 1) w1 bb tn te s 0 []) := Lib.hid (by have h := hBl; simp at h; exact h); clear hBl hb k1); go_wp2_with fail; refine hK.out _ _ ?_ (fun hHeld => ?_); (focus (first | exact hS | (simp [*, go_sem]; done) | fail)); clear hK K; (try simp only [Act.put, nA, nB, nC]); refine rt 9 (some 6) (v := ?_) rfl rfl ?_ ?_; rotate_left; (focus (intro w' hSw; (try dsimp only at hSw); go_simp; (try with_reducible rfl))); (try simp only [Act.put, nA, nB, nC]); refine wpAnyH_done (by kernel_rfl) ?_ _)
  clear hHeld hS a0 a1 a2 a3
  go_wp2_with fail
  go_loopw [7] (fun i wr => ∃ (k : Nat), k ≤ N ∧ i = .int .i64 k ∧ wr.heap[w.heap.size]? = some (.cells #[.int .i64 0, .int .u32 0, .int .i64 0, .slice none 0 0] 34 (0, 0)) ∧ Hid (Bld (w.heap.size + 1) wr bb tn te s (fB (T.take k)).1 (fB (T.take k)).2) ∧ Below w.heap.size w wr ∧ w.heap.size + 1 ≤ wr.heap.size) (fun i _ => N - (intOf i).toNat)
  case atStart => exact ⟨0, Nat.zero_le _, rfl, K1.out, HBL, HB1.out, blklt K1.out⟩
  case round =>
    obtain ⟨k, hk, rfl, b1, hBl, hB, hzz⟩ := hrel
    obtain ⟨W0, rfl⟩ : ∃ x, x = wr := ⟨_, rfl⟩
    have hzB := hB.size
    have B1 := Lib.hid b1
    have y1 := blklt b1
    clear b1
    by_cases hlt : k < N
    · have hk8 : (k : Int) < (N : Int) := by omega
      have a3 := bkeep hB (blkc4 KA.out).2.2.2
      have ya0 : ba < W0.heap.size := by omega
      obtain ⟨bl, off, rfl, hel⟩ := HET.out (by omega)
      obtain ⟨d, hd, hok, x0, x1, x2, x3, x4⟩ := hel k hlt
      have zb := World.block_lt_of_cell? _ _ x0
      simp only at zb
      replace x0 := bkeep hB x0
      replace x1 := bkeep hB x1
      replace x2 := bkeep hB x2
      replace x3 := bkeep hB x3
      replace x4 := bkeep hB x4
      have zb2 : bl < W0.heap.size := World.block_lt_of_cell? _ _ x0
      have hnx := Lib.hid (fB_take hd)
      have HF := Lib.hid hok.1
      have HQ : Hid (inF d.2) := Lib.hid (HFR.out d (List.mem_append_left _ (List.mem_of_getElem? hd))).2.2
      have HMI : Hid ((fB (T.take k)).1 = 0 → ∀ x ∈ (fB (T.take k)).2, inF x.2) := Lib.hid (fB_in (fun x hx => HFR.out x (List.mem_append_left _ (List.mem_of_mem_take hx))))
      have HLL : Hid ((fB (T.take k)).2.length ≤ 1048576) := Lib.hid (by
        have h := fB_len (T.take k)
        rw [List.length_take, hN.out] at h
        omega)
      obtain ⟨C5, hC5⟩ : ∃ C5, fB (T.take k) = C5 := ⟨_, rfl⟩
      rw [hC5] at hBl HMI HLL hnx
      clear hel hd hok hC5
      go_wp2_with fail
      (refine last_region (S := (fun w' => w'.cell? ⟨ba, 3, none⟩ = some (.slice (some ⟨bl, off, none⟩) N cap) ∧ w'.cell? ⟨bl, off + k * 5, none⟩ = some (.int .i64 d.1.1) ∧ w'.cell? ⟨bl, off + k * 5 + 1, none⟩ = some (.int .i64 d.1.2.1) ∧ w'.cell? ⟨bl, off + k * 5 + 2, none⟩ = some (.int .u32 d.1.2.2) ∧ w'.cell? ⟨bl, off + k * 5 + 3, none⟩ = some (.int .i64 d.2.1) ∧ w'.cell? ⟨bl, off + k * 5 + 4, none⟩ = some (.int .i64 d.2.2))) 17 (by kernel_rfl) ?_ (fun hHeld => ?_); (focus (first | exact hS | (simp [*, go_sem]; done) | fail)); refine last_take 0 (some 27) (v := ?_) rfl (by kernel_rfl) (by kernel_rfl) (by kernel_rfl) (by kernel_rfl) (by decide) (by kernel_rfl) (fun _ _ _ h => h) (Or.inl ⟨by kernel_rfl, ?_⟩) (by assumption) ?_; rotate_left; (focus (intro w' hSw; (try dsimp only at hSw); go_simp; (try with_reducible rfl))); (try simp only [Act.put, nA, nB, nC]); refine last_take 1 (some 28) (v := ?_) rfl (by kernel_rfl) (by kernel_rfl) (by kernel_rfl) (by kernel_rfl) (by decide) (by kernel_rfl) (fun _ _ _ h => h) (Or.inl ⟨by kernel_rfl, ?_⟩) (by assumption) ?_; rotate_left; (focus (intro w' hSw; (try dsimp only at hSw); go_simp; (try with_reducible rfl))); (try simp only [Act.put, nA, nB, nC]); refine last_take 2 (some 29) (v := ?_) rfl (by kernel_rfl) (by kernel_rfl) (by kernel_rfl) (by kernel_rfl) (by decide) (by kernel_rfl) (fun _ _ _ h => h) (Or.inl ⟨by kernel_rfl, ?_⟩) (by assumption) ?_; rotate_left; (focus (intro w' hSw; (try dsimp only at hSw); go_simp; (try with_reducible rfl))); (try simp only [Act.put, nA, nB, nC]); refine last_take 3 (some 30) (v := ?_) rfl (by kernel_rfl) (by kernel_rfl) (by kernel_rfl) (by kernel_rfl) (by decide) (by kernel_rfl) (fun _ _ _ h => h) (Or.inl ⟨by kernel_rfl, ?_⟩) (by assumption) ?_; rotate_left; (focus (intro w' hSw; (try dsimp only at hSw); go_simp; (try with_reducible rfl))); (try simp only [Act.put, nA, nB, nC]); refine last_take 4 (some 31) (v := ?_) rfl (by kernel_rfl) (by kernel_rfl) (by kernel_rfl) (by kernel_rfl) (by decide) (by kernel_rfl) (fun _ _ _ h => h) (Or.inl ⟨by kernel_rfl, ?_⟩) (by assumption) ?_; rotate_left; (focus (intro w' hSw; (try dsimp only at hSw); go_simp; (try with_reducible rfl))); (try simp only [Act.put, nA, nB, nC]); refine last_take 5 (some 32) (v := ?_) rfl (by kernel_rfl) (by kernel_rfl) (by kernel_rfl) (by kernel_rfl) (by decide) (by kernel_rfl) (fun _ _ _ h => h) (Or.inl ⟨by kernel_rfl, ?_⟩) (by assumption) ?_; rotate_left; (focus (intro w' hSw; (try dsimp only at hSw); go_simp; (try with_reducible rfl))); (try simp only [Act.put, nA, nB, nC]); refine last_take 6 (some 33) (v := ?_) rfl (by kernel_rfl) (by kernel_rfl) (by kernel_rfl) (by kernel_rfl) (by decide) (by kernel_rfl) (fun _ _ _ h => h) (Or.inl ⟨by kernel_rfl, ?_⟩) (by assumption) ?_; rotate_left; (focus (intro w' hSw; (try dsimp only at hSw); go_simp; (try with_reducible rfl))); (try simp only [Act.put, nA, nB, nC]); refine last_take 7 (some 34) (v := ?_) rfl (by kernel_rfl) (by kernel_rfl) (by kernel_rfl) (by kernel_rfl) (by decide) (by kernel_rfl) (fun _ _ _ h => h) (Or.inl ⟨by kernel_rfl, ?_⟩) (by assumption) ?_; rotate_left; (focus (intro w' hSw; (try dsimp only at hSw); go_simp; (try with_reducible rfl))); (try simp only [Act.put, nA, nB, nC]); refine last_take 8 (some 35) (v := ?_) rfl (by kernel_rfl) (by kernel_rfl) (by kernel_rfl) (by kernel_rfl) (by decide) (by kernel_rfl) (fun _ _ _ h => h) (Or.inl ⟨by kernel_rfl, ?_⟩) (by assumption) ?_; rotate_left; (focus (intro w' hSw; (try dsimp only at hSw); go_simp; (try with_reducible rfl))); (try simp only [Act.put, nA, nB, nC]); refine last_take 9 (some 36) (v := ?_) rfl (by kernel_rfl) (by kernel_rfl) (by kernel_rfl) (by kernel_rfl) (by decide) (by kernel_rfl) (fun _ _ _ h => h) (Or.inl ⟨by kernel_rfl, ?_⟩) (by assumption) ?_; rotate_left; (focus (intro w' hSw; (try dsimp only at hSw); go_simp; (try with_reducible rfl))); (try simp only [Act.put, nA, nB, nC]); refine last_take 10 (some 37) (v := ?_) rfl (by kernel_rfl) (by kernel_rfl) (by kernel_rfl) (by kernel_rfl) (by decide) (by kernel_rfl) (fun _ _ _ h => h) (Or.inl ⟨by kernel_rfl, ?_⟩) (by assumption) ?_; rotate_left; (focus (intro w' hSw; (try dsimp only at hSw); go_simp; (try with_reducible rfl))); (try simp only [Act.put, nA, nB, nC]); refine last_take 11 (some 38) (v := ?_) rfl (by kernel_rfl) (by kernel_rfl) (by kernel_rfl) (by kernel_rfl) (by decide) (by kernel_rfl) (fun _ _ _ h => h) (Or.inl ⟨by kernel_rfl, ?_⟩) (by assumption) ?_; rotate_left; (focus (intro w' hSw; (try dsimp only at hSw); go_simp; (try with_reducible rfl))); (try simp only [Act.put, nA, nB, nC]); refine last_take 12 (some 39) (v := ?_) rfl (by kernel_rfl) (by kernel_rfl) (by kernel_rfl) (by kernel_rfl) (by decide) (by kernel_rfl) (fun _ _ _ h => h) (Or.inl ⟨by kernel_rfl, ?_⟩) (by assumption) ?_; rotate_left; (focus (intro w' hSw; (try dsimp only at hSw); go_simp; (try with_reducible rfl))); (try simp only [Act.put, nA, nB, nC]); refine last_take 13 (some 40) (v := ?_) rfl (by kernel_rfl) (by kernel_rfl) (by kernel_rfl) (by kernel_rfl) (by decide) (by kernel_rfl) (fun _ _ _ h => h) (Or.inl ⟨by kernel_rfl, ?_⟩) (by assumption) ?_; rotate_left; (focus (intro w' hSw; (try dsimp only at hSw); go_simp; (try with_reducible rfl))); (try simp only [Act.put, nA, nB, nC]); refine last_take 14 (some 41) (v := ?_) rfl (by kernel_rfl) (by kernel_rfl) (by kernel_rfl) (by kernel_rfl) (by decide) (by kernel_rfl) (fun _ _ _ h => h) (Or.inl ⟨by kernel_rfl, ?_⟩) (by assumption) ?_; rotate_left; (focus (intro w' hSw; (try dsimp only at hSw); go_simp; (try with_reducible rfl))); (try simp only [Act.put, nA, nB, nC]); refine last_take 15 (some 42) (v := ?_) rfl (by kernel_rfl) (by kernel_rfl) (by kernel_rfl) (by kernel_rfl) (by decide) (by kernel_rfl) (fun _ _ _ h => h) (Or.inl ⟨by kernel_rfl, ?_⟩) (by assumption) ?_; rotate_left; (focus (intro w' hSw; (try dsimp only at hSw); go_simp; (try with_reducible rfl))); (try simp only [Act.put, nA, nB, nC]); refine last_take 16 (some 43) (v := ?_) rfl (by kernel_rfl) (by kernel_rfl) (by kernel_rfl) (by kernel_rfl) (by decide) (by kernel_rfl) (fun _ _ _ h => h) (Or.inl ⟨by kernel_rfl, ?_⟩) (by assumption) ?_; rotate_left; (focus (intro w' hSw; (try dsimp only at hSw); go_simp; (try with_reducible rfl))); (try simp only [Act.put, nA, nB, nC]); refine last_end (by kernel_rfl) rfl (fun K hK => ?_); go_simp; (go_at_call 80; refine Calls.mono (bAdd_any _ (w.heap.size + 1) bb tn te s C5.1 C5.2 d.1 d.2 (hBl.out.below (bdrew1 (Below.refl _ _))) HF.out HQ.out HMI.out HLL.out) ?_; rw [← hnx.out]; rintro e0 w7 ⟨rfl, hBl7, hb⟩; have HBL7 := Lib.hid hBl7; have HB7 := Lib.hid (show Below (w.heap.size + 1) W0 w7 from Below.trans (bdrew1 (Below.refl _ _)) hb); clear hBl7 hb); go_wp2_with fail; refine hK.out _ _ ?_; clear hK K hHeld; (try simp only [Act.put, nA, nB, nC]); refine last_done (by kernel_rfl) ?_ _)
      clear hHeld
      go_wp2_with fail
      go_roundw
      case rel => exact ⟨k + 1, by omega, by go_num, bblk HB7.out (by omega) B1.out, HBL7, hB.trans (HB7.out.mono (by omega)), Nat.le_trans hzz HB7.out.size⟩
      case measure => simp [intOf]; omega
    have e : k = N := by omega
    subst e
    have hk8 : ¬ (k : Int) < (k : Int) := by omega
    rw [show T.take k = T from List.take_of_length_le (by rw [hN.out]; exact Nat.le_refl _)] at hBl
    have a3 := bkeep hB (blkc4 KA.out).2.2.2
    have ya0 : ba < W0.heap.size := by omega
    go_wp2_with fail
    clear a3
    go_loopw [8] (fun i wr => ∃ (j : Nat), j ≤ M ∧ i = .int .i64 j ∧ wr.heap[w.heap.size]? = some (.cells #[.int .i64 0, .int .u32 0, .int .i64 0, .slice none 0 0] 34 (0, 0)) ∧ Hid (Bld (w.heap.size + 1) wr bb tn te s (fB (T ++ U.take j)).1 (fB (T ++ U.take j)).2) ∧ Below w.heap.size w wr ∧ w.heap.size + 1 ≤ wr.heap.size) (fun i _ => M - (intOf i).toNat)
    case atStart => exact ⟨0, Nat.zero_le _, rfl, B1.out, by rw [List.take_zero, List.append_nil]; exact hBl, hB, hzz⟩
    case round =>
      clear hBl hB hzz hzB y1 B1 ya0
      obtain ⟨j, hj, rfl, b1, hBl, hB, hzz⟩ := hrel
      obtain ⟨W1, rfl⟩ : ∃ x, x = wr := ⟨_, rfl⟩
      have hzB := hB.size
      have B1 := Lib.hid b1
      have y1 := blklt b1
      obtain ⟨⟨r0, r1, r2, r3⟩, f0, f1, f2, f3⟩ := blk4 b1
      clear b1
      have a3 := bkeep hB (blkc4 KC.out).2.2.2
      have yc0 : bc < W1.heap.size := by omega
      by_cases hlt : j < M
      · have hk9 : (j : Int) < (M : Int) := by omega
        obtain ⟨bl, off, rfl, hel⟩ := HEU.out (by omega)
        obtain ⟨d, hd, hok, x0, x1, x2, x3, x4⟩ := hel j hlt
        have zb := World.block_lt_of_cell? _ _ x0
        simp only at zb
        replace x0 := bkeep hB x0
        replace x1 := bkeep hB x1
        replace x2 := bkeep hB x2
        replace x3 := bkeep hB x3
        replace x4 := bkeep hB x4
        have zb2 : bl < W1.heap.size := World.block_lt_of_cell? _ _ x0
        have hnx : Hid (fB (T ++ U.take (j + 1)) = adB (fB (T ++ U.take j)) d.1 d.2) := Lib.hid (by
          have h := fB_take (L := T ++ U) (a := k + j) (x := d) (by rw [List.getElem?_append_right (by rw [hN.out]; omega), hN.out, show k + j - k = j by omega]; exact hd)
          rw [show (T ++ U).take (k + j + 1) = T ++ U.take (j + 1) from by rw [show k + j + 1 = T.length + (j + 1) by rw [hN.out]; omega, List.take_length_add_append], show (T ++ U).take (k + j) = T ++ U.take j from by rw [show k + j = T.length + j by rw [hN.out], List.take_length_add_append]] at h
          exact h)
        have HF := Lib.hid hok.1
        have HQ : Hid (inF d.2) := Lib.hid (HFR.out d (List.mem_append_right _ (List.mem_of_getElem? hd))).2.2
        have HMI : Hid ((fB (T ++ U.take j)).1 = 0 → ∀ x ∈ (fB (T ++ U.take j)).2, inF x.2) := Lib.hid (fB_in (fun x hx => HFR.out x (by
          rcases List.mem_append.1 hx with hx | hx
          · exact List.mem_append_left _ hx
          · exact List.mem_append_right _ (List.mem_of_mem_take hx))))
        have HLL : Hid ((fB (T ++ U.take j)).2.length ≤ 1048576) := Lib.hid (by
          have h := fB_len (T ++ U.take j)
          rw [List.length_append, List.length_take, hN.out, hM.out] at h
          omega)
        obtain ⟨C5, hC5⟩ : ∃ C5, fB (T ++ U.take j) = C5 := ⟨_, rfl⟩
        rw [hC5] at hBl HMI HLL hnx
        clear hel hd hok hC5 r0 r1 r2 r3 f0 f1 f2 f3
        go_wp2_with fail
        (refine last_region (S := (fun w' => w'.cell? ⟨bc, 3, none⟩ = some (.slice (some ⟨bl, off, none⟩) M cap') ∧ w'.cell? ⟨bl, off + j * 5, none⟩ = some (.int .i64 d.1.1) ∧ w'.cell? ⟨bl, off + j * 5 + 1, none⟩ = some (.int .i64 d.1.2.1) ∧ w'.cell? ⟨bl, off + j * 5 + 2, none⟩ = some (.int .u32 d.1.2.2) ∧ w'.cell? ⟨bl, off + j * 5 + 3, none⟩ = some (.int .i64 d.2.1) ∧ w'.cell? ⟨bl, off + j * 5 + 4, none⟩ = some (.int .i64 d.2.2))) 17 (by kernel_rfl) ?_ (fun hHeld => ?_); (focus (first | exact hS | (simp [*, go_sem]; done) | fail)); refine last_take 0 (some 54) (v := ?_) rfl (by kernel_rfl) (by kernel_rfl) (by kernel_rfl) (by kernel_rfl) (by decide) (by kernel_rfl) (fun _ _ _ h => h) (Or.inl ⟨by kernel_rfl, ?_⟩) (by assumption) ?_; rotate_left; (focus (intro w' hSw; (try dsimp only at hSw); go_simp; (try with_reducible rfl))); (try simp only [Act.put, nA, nB, nC]); refine last_take 1 (some 55) (v := ?_) rfl (by kernel_rfl) (by kernel_rfl) (by kernel_rfl) (by kernel_rfl) (by decide) (by kernel_rfl) (fun _ _ _ h => h) (Or.inl ⟨by kernel_rfl, ?_⟩) (by assumption) ?_; rotate_left; (focus (intro w' hSw; (try dsimp only at hSw); go_simp; (try with_reducible rfl))); (try simp only [Act.put, nA, nB, nC]); refine last_take 2 (some 56) (v := ?_) rfl (by kernel_rfl) (by kernel_rfl) (by kernel_rfl) (by kernel_rfl) (by decide) (by kernel_rfl) (fun _ _ _ h => h) (Or.inl ⟨by kernel_rfl, ?_⟩) (by assumption) ?_; rotate_left; (focus (intro w' hSw; (try dsimp only at hSw); go_simp; (try with_reducible rfl))); (try simp only [Act.put, nA, nB, nC]); refine last_take 3 (some 57) (v := ?_) rfl (by kernel_rfl) (by kernel_rfl) (by kernel_rfl) (by kernel_rfl) (by decide) (by kernel_rfl) (fun _ _ _ h => h) (Or.inl ⟨by kernel_rfl, ?_⟩) (by assumption) ?_; rotate_left; (focus (intro w' hSw; (try dsimp only at hSw); go_simp; (try with_reducible rfl))); (try simp only [Act.put, nA, nB, nC]); refine last_take 4 (some 58) (v := ?_) rfl (by kernel_rfl) (by kernel_rfl) (by kernel_rfl) (by kernel_rfl) (by decide) (by kernel_rfl) (fun _ _ _ h => h) (Or.inl ⟨by kernel_rfl, ?_⟩) (by assumption) ?_; rotate_left; (focus (intro w' hSw; (try dsimp only at hSw); go_simp; (try with_reducible rfl))); (try simp only [Act.put, nA, nB, nC]); refine last_take 5 (some 59) (v := ?_) rfl (by kernel_rfl) (by kernel_rfl) (by kernel_rfl) (by kernel_rfl) (by decide) (by kernel_rfl) (fun _ _ _ h => h) (Or.inl ⟨by kernel_rfl, ?_⟩) (by assumption) ?_; rotate_left; (focus (intro w' hSw; (try dsimp only at hSw); go_simp; (try with_reducible rfl))); (try simp only [Act.put, nA, nB, nC]); refine last_take 6 (some 60) (v := ?_) rfl (by kernel_rfl) (by kernel_rfl) (by kernel_rfl) (by kernel_rfl) (by decide) (by kernel_rfl) (fun _ _ _ h => h) (Or.inl ⟨by kernel_rfl, ?_⟩) (by assumption) ?_; rotate_left; (focus (intro w' hSw; (try dsimp only at hSw); go_simp; (try with_reducible rfl))); (try simp only [Act.put, nA, nB, nC]); refine last_take 7 (some 61) (v := ?_) rfl (by kernel_rfl) (by kernel_rfl) (by kernel_rfl) (by kernel_rfl) (by decide) (by kernel_rfl) (fun _ _ _ h => h) (Or.inl ⟨by kernel_rfl, ?_⟩) (by assumption) ?_; rotate_left; (focus (intro w' hSw; (try dsimp only at hSw); go_simp; (try with_reducible rfl))); (try simp only [Act.put, nA, nB, nC]); refine last_take 8 (some 62) (v := ?_) rfl (by kernel_rfl) (by kernel_rfl) (by kernel_rfl) (by kernel_rfl) (by decide) (by kernel_rfl) (fun _ _ _ h => h) (Or.inl ⟨by kernel_rfl, ?_⟩) (by assumption) ?_; rotate_left; (focus (intro w' hSw; (try dsimp only at hSw); go_simp; (try with_reducible rfl))); (try simp only [Act.put, nA, nB, nC]); refine last_take 9 (some 63) (v := ?_) rfl (by kernel_rfl) (by kernel_rfl) (by kernel_rfl) (by kernel_rfl) (by decide) (by kernel_rfl) (fun _ _ _ h => h) (Or.inl ⟨by kernel_rfl, ?_⟩) (by assumption) ?_; rotate_left; (focus (intro w' hSw; (try dsimp only at hSw); go_simp; (try with_reducible rfl))); (try simp only [Act.put, nA, nB, nC]); refine last_take 10 (some 64) (v := ?_) rfl (by kernel_rfl) (by kernel_rfl) (by kernel_rfl) (by kernel_rfl) (by decide) (by kernel_rfl) (fun _ _ _ h => h) (Or.inl ⟨by kernel_rfl, ?_⟩) (by assumption) ?_; rotate_left; (focus (intro w' hSw; (try dsimp only at hSw); go_simp; (try with_reducible rfl))); (try simp only [Act.put, nA, nB, nC]); refine last_take 11 (some 65) (v := ?_) rfl (by kernel_rfl) (by kernel_rfl) (by kernel_rfl) (by kernel_rfl) (by decide) (by kernel_rfl) (fun _ _ _ h => h) (Or.inl ⟨by kernel_rfl, ?_⟩) (by assumption) ?_; rotate_left; (focus (intro w' hSw; (try dsimp only at hSw); go_simp; (try with_reducible rfl))); (try simp only [Act.put, nA, nB, nC]); refine last_take 12 (some 66) (v := ?_) rfl (by kernel_rfl) (by kernel_rfl) (by kernel_rfl) (by kernel_rfl) (by decide) (by kernel_rfl) (fun _ _ _ h => h) (Or.inl ⟨by kernel_rfl, ?_⟩) (by assumption) ?_; rotate_left; (focus (intro w' hSw; (try dsimp only at hSw); go_simp; (try with_reducible rfl))); (try simp only [Act.put, nA, nB, nC]); refine last_take 13 (some 67) (v := ?_) rfl (by kernel_rfl) (by kernel_rfl) (by kernel_rfl) (by kernel_rfl) (by decide) (by kernel_rfl) (fun _ _ _ h => h) (Or.inl ⟨by kernel_rfl, ?_⟩) (by assumption) ?_; rotate_left; (focus (intro w' hSw; (try dsimp only at hSw); go_simp; (try with_reducible rfl))); (try simp only [Act.put, nA, nB, nC]); refine last_take 14 (some 68) (v := ?_) rfl (by kernel_rfl) (by kernel_rfl) (by kernel_rfl) (by kernel_rfl) (by decide) (by kernel_rfl) (fun _ _ _ h => h) (Or.inl ⟨by kernel_rfl, ?_⟩) (by assumption) ?_; rotate_left; (focus (intro w' hSw; (try dsimp only at hSw); go_simp; (try with_reducible rfl))); (try simp only [Act.put, nA, nB, nC]); refine last_take 15 (some 69) (v := ?_) rfl (by kernel_rfl) (by kernel_rfl) (by kernel_rfl) (by kernel_rfl) (by decide) (by kernel_rfl) (fun _ _ _ h => h) (Or.inl ⟨by kernel_rfl, ?_⟩) (by assumption) ?_; rotate_left; (focus (intro w' hSw; (try dsimp only at hSw); go_simp; (try with_reducible rfl))); (try simp only [Act.put, nA, nB, nC]); refine last_take 16 (some 70) (v := ?_) rfl (by kernel_rfl) (by kernel_rfl) (by kernel_rfl) (by kernel_rfl) (by decide) (by kernel_rfl) (fun _ _ _ h => h) (Or.inl ⟨by kernel_rfl, ?_⟩) (by assumption) ?_; rotate_left; (focus (intro w' hSw; (try dsimp only at hSw); go_simp; (try with_reducible rfl))); (try simp only [Act.put, nA, nB, nC]); refine last_end (by kernel_rfl) rfl (fun K hK => ?_); go_simp; (go_at_call 80; refine Calls.mono (bAdd_any _ (w.heap.size + 1) bb tn te s C5.1 C5.2 d.1 d.2 (hBl.out.below (bdrew1 (Below.refl _ _))) HF.out HQ.out HMI.out HLL.out) ?_; rw [← hnx.out]; rintro e0 w7 ⟨rfl, hBl7, hb⟩; have HBL7 := Lib.hid hBl7; have HB7 := Lib.hid (show Below (w.heap.size + 1) W1 w7 from Below.trans (bdrew1 (Below.refl _ _)) hb); clear hBl7 hb); go_wp2_with fail; refine hK.out _ _ ?_; clear hK K hHeld; (try simp only [Act.put, nA, nB, nC]); refine last_done (by kernel_rfl) ?_ _)
        clear hHeld
        go_wp2_with fail
        go_roundw
        case rel => exact ⟨j + 1, by omega, by go_num, bblk HB7.out (by omega) B1.out, HBL7, hB.trans (HB7.out.mono (by omega)), Nat.le_trans hzz HB7.out.size⟩
        case measure => simp [intOf]; omega
      · have e : j = M := by omega
        subst e
        have hk9 : ¬ (j : Int) < (j : Int) := by omega
        rw [show U.take j = U from List.take_of_length_le (by rw [hM.out]; exact Nat.le_refl _)] at hBl
        have HLL : (fB (T ++ U)).2.length ≤ 1048576 := by
          have h := fB_len (T ++ U)
          rw [List.length_append, hN.out, hM.out] at h
          omega
        obtain ⟨C5, hC5⟩ : ∃ C5, Hid (fB (T ++ U) = C5) := ⟨_, Lib.hid rfl⟩
        rw [hC5.out] at hBl HLL HCO
        have HEND := bEnd_any W1 (w.heap.size + 1) bb tn te s C5.1 C5.2 hBl.out HLL
        rw [HCO.out.1] at HEND
        have HEND := Lib.hid HEND
        clear hBl HLL
        go_wp2_with fail
        refine Calls.mono HEND.out ?_
        rintro e0 w6 ⟨A5, cap5, F5, rfl, hO5, hb5⟩
        have kr := bblk hb5 y1 B1.out
        have hbb : Below w.heap.size w w6 := hB.trans (hb5.mono hzB)
        have hxl : tdL C (nzT C5.2) = tdL C (nzT (fI (T ++ U)).2) := by
          by_cases h0 : C = 0
          · rw [HCO.out.2 h0]
          · show (if C = 0 then _ else _) = (if C = 0 then _ else _)
            rw [if_neg h0, if_neg h0]
        rw [hxl] at hO5 ⊢
        obtain ⟨XL, hXL, NX, hNX⟩ : ∃ XL : List Trm, Hid (tdL C (nzT (fI (T ++ U)).2) = XL) ∧ ∃ NX : Nat, Hid (XL.length = NX) := ⟨_, Lib.hid rfl, _, Lib.hid rfl⟩
        rw [hXL.out] at hO5 ⊢
        rw [hNX.out] at hO5 ⊢
        have HO5 := Lib.hid hO5
        have hzz5 : W1.heap.size ≤ w6.heap.size := hb5.size
        obtain ⟨⟨c50, c51, c52, c53⟩, f50, f51, f52, f53⟩ := blk4 kr
        have zz5 := blklt kr
        clear hO5 hb5 kr r0 r1 r2 r3 f0 f1 f2 f3 hxl
        go_wp2_with fail
        refine bodyPost_ret (v := .tuple #[.agg #[.int .i64 (tdT C (tn, te)).1, .int .u32 (tdT C (tn, te)).2, .int .i64 (tdS C s), .slice A5 NX cap5], .int .i64 C]) (by simp [results, Tryz.results49, go_sem, *]) rfl ?_
        rw [hXL.out]
        refine ⟨A5, cap5, F5, ?_, ?_, ?_⟩
        · rw [hNX.out]
        · rw [hNX.out]
          refine HO5.out.move (by omega) fun q h1 _ => ?_
          have hne : q ≠ w.heap.size := by omega
          exact (Below.heap_setCell _ ⟨w.heap.size, 3, none⟩ _ q hne).trans ((Below.heap_setCell _ ⟨w.heap.size, 2, none⟩ _ q hne).trans ((Below.heap_setCell _ ⟨w.heap.size, 1, none⟩ _ q hne).trans (Below.heap_setCell _ ⟨w.heap.size, 0, none⟩ _ q hne)))
        · exact belA
set_option maxHeartbeats 4000000 in
theorem sAddSums_any (w : World) (tn te s : Int) (T : List Trm) (v : Value) (tn' te' s' : Int) (U : List Trm) (u : Value) (hT : Lst shTerm w T v) (hU : Lst shTerm w U u) (he : 0 ≤ te ∧ te ≤ 4294967295) (he' : 0 ≤ te' ∧ te' ≤ 4294967295) :
    Calls Tryz.prog 17 #[.agg #[.int .i64 tn, .int .u32 te, .int .i64 s, v], .agg #[.int .i64 tn', .int .u32 te', .int .i64 s', u]] w (SumRet w.heap.size w (asC tn te s T tn' te' s' U) (tdT (asC tn te s T tn' te' s' U) (tn, te)) (tdS (asC tn te s T tn' te' s' U) s) (asL tn te s T tn' te' s' U)) := by
  have HT := Lib.hid hT
  have HU := Lib.hid hU
  have HE := Lib.hid he
  have HE' := Lib.hid he'
  obtain ⟨A, cap, rfl, _, _⟩ := formTerm hT
  obtain ⟨A', cap', rfl, _, _⟩ := formTerm hU
  clear hT hU
  unfold asL
  cases h1 : sumOk tn te s T
  · have hr : Hid (asC tn te s T tn' te' s' U = 1) := Lib.hid (by simp [asC, h1])
    have H1 := Lib.hid h1
    clear h1 he he'
    go_enter Tryz.func17, Tryz.ntmps17
    go_wp2_with (first | (go_at_call 30; refine Calls.mono (l05Ok_any _ w.heap.size tn te s T _ blkA (HT.out.below belA) HE.out) ?_; rw [H1.out]; rintro e w1 ⟨rfl, hb⟩; obtain ⟨X, m, rfl⟩ := plsOf hb; clear hb))
    refine bodyPost_ret (v := .tuple #[.agg #[.int .i64 0, .int .u32 0, .int .i64 0, .slice none 0 0], .int .i64 1]) (by simp [results, Tryz.results17, go_sem, *]) rfl ?_
    rw [hr.out]
    exact sumRet_no rfl rfl rfl belA rfl
  have H1 := Lib.hid h1
  cases h2 : sumOk tn' te' s' U
  · have hr : Hid (asC tn te s T tn' te' s' U = 1) := Lib.hid (by simp [asC, h2])
    have H2 := Lib.hid h2
    clear h1 h2 he he'
    go_enter Tryz.func17, Tryz.ntmps17
    go_wp2_with (first | (go_at_call 30; refine Calls.mono (l05Ok_any _ w.heap.size tn te s T _ blkA (HT.out.below belA) HE.out) ?_; rw [H1.out]; rintro e w1 ⟨rfl, hb⟩; obtain ⟨X, m, rfl⟩ := plsOf hb; clear hb) | (go_at_call 30; refine Calls.mono (l05Ok_any _ (w.heap.size + 1) tn' te' s' U _ blkA (HU.out.below belA) HE'.out) ?_; rw [H2.out]; rintro e w1 ⟨rfl, hb⟩; obtain ⟨X, m, rfl⟩ := plsOf hb; clear hb))
    refine bodyPost_ret (v := .tuple #[.agg #[.int .i64 0, .int .u32 0, .int .i64 0, .slice none 0 0], .int .i64 1]) (by simp [results, Tryz.results17, go_sem, *]) rfl ?_
    rw [hr.out]
    exact sumRet_no rfl rfl rfl belA rfl
  have H2 := Lib.hid h2
  cases h3 : eq2 tn te tn' te'
  · have hr : Hid (asC tn te s T tn' te' s' U = 4) := Lib.hid (by simp [asC, h1, h2, h3])
    clear h1 h2 he he'
    go_enter Tryz.func17, Tryz.ntmps17
    go_wp2_with (first | (go_at_call 30; refine Calls.mono (l05Ok_any _ w.heap.size tn te s T _ blkA (HT.out.below belA) HE.out) ?_; rw [H1.out]; rintro e w1 ⟨rfl, hb⟩; obtain ⟨X, m, rfl⟩ := plsOf hb; clear hb) | (go_at_call 30; refine Calls.mono (l05Ok_any _ (w.heap.size + 1) tn' te' s' U _ blkA (HU.out.below belA) HE'.out) ?_; rw [H2.out]; rintro e w1 ⟨rfl, hb⟩; obtain ⟨X, m, rfl⟩ := plsOf hb; clear hb))
    refine bodyPost_ret (v := .tuple #[.agg #[.int .i64 0, .int .u32 0, .int .i64 0, .slice none 0 0], .int .i64 4]) (by simp [results, Tryz.results17, go_sem, *]) rfl ?_
    rw [hr.out]
    exact sumRet_no rfl rfl rfl belA rfl
  have h3' : tn' = tn ∧ te' = te := by simp [eq2] at h3; exact ⟨h3.1.symm, h3.2.symm⟩
  obtain ⟨rfl, rfl⟩ := h3'
  cases h4 : (s == s')
  · have h4' : ¬ s = s' := by simpa using h4
    have hr : Hid (asC tn' te' s T tn' te' s' U = 2) := Lib.hid (by unfold asC; rw [h1, h2, h3, if_neg h4']; rfl)
    have h5 : (s != s') = true := by simpa using h4'
    clear h1 h2 he he'
    go_enter Tryz.func17, Tryz.ntmps17
    go_wp2_with (first | (go_at_call 30; refine Calls.mono (l05Ok_any _ w.heap.size tn' te' s T _ blkA (HT.out.below belA) HE.out) ?_; rw [H1.out]; rintro e w1 ⟨rfl, hb⟩; obtain ⟨X, m, rfl⟩ := plsOf hb; clear hb) | (go_at_call 30; refine Calls.mono (l05Ok_any _ (w.heap.size + 1) tn' te' s' U _ blkA (HU.out.below belA) HE'.out) ?_; rw [H2.out]; rintro e w1 ⟨rfl, hb⟩; obtain ⟨X, m, rfl⟩ := plsOf hb; clear hb))
    refine bodyPost_ret (v := .tuple #[.agg #[.int .i64 0, .int .u32 0, .int .i64 0, .slice none 0 0], .int .i64 2]) (by simp [results, Tryz.results17, go_sem, *]) rfl ?_
    rw [hr.out]
    exact sumRet_no rfl rfl rfl belA rfl
  have h4' : s = s' := by simpa using h4
  subst h4'
  have hr : Hid (asC tn' te' s T tn' te' s U = tdC (fI (T ++ U)).1 (fI (T ++ U)).2) := Lib.hid (by simp [asC, h1, h2, h3])
  have HADD : Hid (∀ (W : World) (x y : Value), W.heap[w.heap.size]? = some (.cells #[.int .i64 tn', .int .u32 te', .int .i64 s, x] 34 (0, 0)) → W.heap[w.heap.size + 1]? = some (.cells #[.int .i64 tn', .int .u32 te', .int .i64 s, y] 34 (0, 0)) → Lst shTerm W T x → Lst shTerm W U y → Calls Tryz.prog 49 #[.pointer (some ⟨w.heap.size, 0, none⟩), .pointer (some ⟨w.heap.size + 1, 0, none⟩)] W (SumRet W.heap.size W (tdC (fI (T ++ U)).1 (fI (T ++ U)).2) (tdT (tdC (fI (T ++ U)).1 (fI (T ++ U)).2) (tn', te')) (tdS (tdC (fI (T ++ U)).1 (fI (T ++ U)).2) s) (tdL (tdC (fI (T ++ U)).1 (fI (T ++ U)).2) (nzT (fI (T ++ U)).2)))) := Lib.hid fun W x y k0 k1 hx hy => l05Add_any W _ _ tn' te' s T x U y k0 k1 hx hy h1 h2
  obtain ⟨C, hC⟩ : ∃ C, Hid (tdC (fI (T ++ U)).1 (fI (T ++ U)).2 = C) := ⟨_, Lib.hid rfl⟩
  obtain ⟨XL, hXL, NX, hNX⟩ : ∃ XL : List Trm, Hid (tdL C (nzT (fI (T ++ U)).2) = XL) ∧ ∃ NX : Nat, Hid (XL.length = NX) := ⟨_, Lib.hid rfl, _, Lib.hid rfl⟩
  rw [hr.out]
  rw [hC.out, hXL.out] at HADD ⊢
  clear h1 h2 he he'
  obtain ⟨N, hN⟩ : ∃ N : Nat, Hid (T.length = N) := ⟨_, Lib.hid rfl⟩
  obtain ⟨M, hM⟩ : ∃ M : Nat, Hid (U.length = M) := ⟨_, Lib.hid rfl⟩
  rw [hN.out, hM.out]
  rw [hN.out] at HT
  rw [hM.out] at HU
  go_enter Tryz.func17, Tryz.ntmps17
  go_wp2_with fail
  refine Calls.mono (l05Ok_any _ w.heap.size tn' te' s T _ blkA (HT.out.below belA) HE.out) ?_
  rw [H1.out]
  rintro e0 w1 ⟨rfl, hb⟩
  have k0 : w1.heap[w.heap.size]? = some (.cells #[.int .i64 tn', .int .u32 te', .int .i64 s, .slice A N cap] 34 (0, 0)) := bblk hb (by simp <;> omega) blkA
  have k1 : w1.heap[w.heap.size + 1]? = some (.cells #[.int .i64 tn', .int .u32 te', .int .i64 s, .slice A' M cap'] 34 (0, 0)) := bblk hb (by simp <;> omega) blkA
  have k2 : w1.heap[w.heap.size + 1 + 1]? = some (.cells #[.int .i64 0, .int .u32 0, .int .i64 0, .slice none 0 0] 34 (0, 0)) := bblk hb (by simp <;> omega) blkA
  have HB1 := Lib.hid (show Below w.heap.size w w1 from Below.trans belA (hb.mono (by simp <;> omega)))
  have K0 := Lib.hid k0
  have K1 := Lib.hid k1
  have K2 := Lib.hid k2
  clear hb k0 k1 k2
  go_wp2_with fail
  refine Calls.mono (l05Ok_any _ (w.heap.size + 1) tn' te' s U _ K1.out (HU.out.below HB1.out) HE'.out) ?_
  rw [H2.out]
  rintro e0 w2 ⟨rfl, hb⟩
  have k0 := bblk hb (blklt K0.out) K0.out
  have k1 := bblk hb (blklt K1.out) K1.out
  have k2 := bblk hb (blklt K2.out) K2.out
  have HB2 := Lib.hid (show Below w.heap.size w w2 from HB1.out.trans (hb.mono HB1.out.size))
  obtain ⟨c0, c1, c2, c3⟩ := blkc4 k0
  obtain ⟨d0, d1, d2, d3⟩ := blkc4 k1
  have y0 := blklt k0
  have y1 := blklt k1
  have y2 := blklt k2
  have K02 := Lib.hid k0
  have K12 := Lib.hid k1
  have K22 := Lib.hid k2
  clear hb k0 k1 k2 K0 K1 K2 HB1
  go_wp2_with fail
  refine Calls.mono (HADD.out _ _ _ K02.out K12.out (HT.out.below HB2.out) (HU.out.below HB2.out)) ?_
  rintro e0 w4 ⟨A4, cap4, F4, rfl, hO4, hb⟩
  rw [hNX.out] at hO4 ⊢
  have HB4 := Lib.hid (HB2.out.trans (hb.mono HB2.out.size))
  have k24 := bblk hb y2 K22.out
  have HO4 := Lib.hid hO4
  obtain ⟨⟨g0, g1, g2, g3⟩, f0, f1, f2, f3⟩ := blk4 k24
  have y24 := blklt k24
  have hzz := HB2.out.size
  clear hO4 hb k24 c0 c1 c2 c3 d0 d1 d2 d3
  go_wp2_with fail
  refine bodyPost_ret (v := .tuple #[.agg #[.int .i64 (tdT C (tn', te')).1, .int .u32 (tdT C (tn', te')).2, .int .i64 (tdS C s), .slice A4 NX cap4], .int .i64 C]) (by simp [results, Tryz.results17, go_sem, *]) rfl ?_
  refine ⟨A4, cap4, F4, by rw [hNX.out], ?_, ?_⟩
  · rw [hNX.out]
    refine HO4.out.move (by omega) fun q h1 _ => ?_
    have hne : q ≠ w.heap.size + 1 + 1 := by omega
    exact (Below.heap_setCell _ ⟨w.heap.size + 1 + 1, 3, none⟩ _ q hne).trans ((Below.heap_setCell _ ⟨w.heap.size + 1 + 1, 2, none⟩ _ q hne).trans ((Below.heap_setCell _ ⟨w.heap.size + 1 + 1, 1, none⟩ _ q hne).trans (Below.heap_setCell _ ⟨w.heap.size + 1 + 1, 0, none⟩ _ q hne)))
  · have hb4 := HB4.out
    exact belA
end Go.Proofs.YtpcjinbbgnmchaaGreat

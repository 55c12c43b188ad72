/- A sum times a fraction: impl.ScaleSum. -/
import Derived.Test.YtpcjinbbgnmchaaSd
import Derived.Test.YtpcjinbbgnmchaaLi
namespace Go.Proofs.Ytpcjinbbgnmchaa
open Go.ChangeShapes Go.WideShapes Go.RowKit
set_option linter.unusedVariables false
set_option linter.unusedSimpArgs false
attribute [local irreducible] Calls
set_option maxHeartbeats 4000000 in
theorem ScaleSum_any (w : World) (tn te s : Int) (T : List Trm) (v : Value) (q : Int × Int) (hT : Lst shTerm w T v) (he : 0 ≤ te ∧ te ≤ 4294967295) (hqo : okFr q) :
    Calls Try.prog 9 #[.agg #[.int .i64 tn, .int .u32 te, .int .i64 s, v], .agg #[.int .i64 q.1, .int .i64 q.2]] w (SumRet w.heap.size w (skC tn te s T q) (tdT (skC tn te s T q) (tn, te)) (tdS (skC tn te s T q) s) (tdL (skC tn te s T q) (nzT (scX T q)))) := by
  have HT := Lib.hid hT
  have HE := Lib.hid he
  have HQO := Lib.hid hqo
  obtain ⟨A, cap, rfl, _, _⟩ := formTerm hT
  clear hT hqo
  cases h1 : sumOk tn te s T
  · have hr : Hid (skC tn te s T q = 1) := Lib.hid (by simp [skC, h1])
    have H1 := Lib.hid h1
    clear h1 he
    go_enter Try.func9, Try.ntmps9
    go_wp2_with (first | (go_at_call 23; refine Calls.mono (ValidSum_any _ tn te s T _ (HT.out.below belA) HE.out) ?_; rw [H1.out]; rintro e w1 ⟨rfl, hb⟩; obtain ⟨X, m, rfl⟩ := plsOf hb; clear hb))
    refine bodyPost_ret (v := .tuple #[.agg #[.int .i64 0, .int .u32 0, .int .i64 0, .slice none 0 0], .int .i64 1]) (by simp [results, Try.results9, go_sem, *]) rfl ?_
    rw [hr.out]
    exact sumRet_no rfl rfl rfl belA rfl
  have H1 := Lib.hid h1
  cases h2 : frOk q.1 q.2
  · have hr : Hid (skC tn te s T q = 1) := Lib.hid (by simp [skC, h2])
    have H2 : Hid (badF q = true) := Lib.hid (by unfold badF; rw [h2]; rfl)
    clear h1 h2 he
    go_enter Try.func9, Try.ntmps9
    go_wp2_with (first | (go_at_call 23; refine Calls.mono (ValidSum_any _ tn te s T _ (HT.out.below belA) HE.out) ?_; rw [H1.out]; rintro e w1 ⟨rfl, hb⟩; obtain ⟨X, m, rfl⟩ := plsOf hb; clear hb) | (go_at_call 24; refine Calls.mono (badFraction_any q _ HQO.out) ?_; rw [H2.out]; rintro e w1 ⟨rfl, hb⟩; obtain ⟨X, m, rfl⟩ := plsOf hb; clear hb))
    refine bodyPost_ret (v := .tuple #[.agg #[.int .i64 0, .int .u32 0, .int .i64 0, .slice none 0 0], .int .i64 1]) (by simp [results, Try.results9, go_sem, *]) rfl ?_
    rw [hr.out]
    exact sumRet_no rfl rfl rfl belA rfl
  have H2 : Hid (badF q = false) := Lib.hid (by unfold badF; rw [h2]; rfl)
  have hr : Hid (skC tn te s T q = scC T q) := Lib.hid (by simp [skC, h1, h2])
  have HIN := Lib.hid (sum_in h1)
  have hl : T.length ≤ 64 := (sumOk_iff.1 h1).2.2.1
  have HQ := Lib.hid (inF_of_ok (d := q) h2)
  obtain ⟨N, hN⟩ : ∃ N, Hid (T.length = N) := ⟨_, Lib.hid rfl⟩
  have hMl : Hid ((scX T q).length = N) := Lib.hid (by unfold scX; rw [List.length_map, hN.out])
  rw [hN.out] at hl HT ⊢
  clear h1 h2 he
  rw [hr.out]
  go_enter Try.func9, Try.ntmps9
  go_wp2_with fail
  refine Calls.mono (ValidSum_any _ tn te s T _ (HT.out.below belA) HE.out) ?_
  rw [H1.out]
  rintro e0 w1 ⟨rfl, hb⟩
  have k0 : w1.heap[w.heap.size]? = some (.cells #[.int .i64 tn, .int .u32 te, .int .i64 s, .slice A N cap] 34 (0, 0)) := bblk hb (by simp <;> omega) blkA
  have k1 : w1.heap[w.heap.size + 1]? = some (.cells #[.int .i64 q.1, .int .i64 q.2] 38 (0, 0)) := bblk hb (by simp <;> omega) blkA
  have k2 : w1.heap[w.heap.size + 1 + 1]? = some (.cells #[.int .i64 0, .int .u32 0, .int .i64 0, .slice none 0 0] 34 (0, 0)) := bblk hb (by simp <;> omega) blkA
  have HB1 := Lib.hid (show Below w.heap.size w w1 from Below.trans belA (hb.mono (by simp <;> omega)))
  obtain ⟨q0, q1⟩ := blkc2 k1
  have y1 := blklt k1
  have K0 := Lib.hid k0
  have K1 := Lib.hid k1
  have K2 := Lib.hid k2
  clear hb k0 k1 k2
  go_wp2_with fail
  refine Calls.mono (badFraction_any q _ HQO.out) ?_
  rw [H2.out]
  rintro e0 w2 ⟨rfl, hb⟩
  have k0 := bblk hb (blklt K0.out) K0.out
  have k1 := bblk hb (blklt K1.out) K1.out
  have k2 := bblk hb (blklt K2.out) K2.out
  have HB2 := Lib.hid (show Below w.heap.size w w2 from HB1.out.trans (hb.mono HB1.out.size))
  obtain ⟨a0, a1, a2, a3⟩ := blkc4 k0
  have y0 := blklt k0
  have y1 := blklt k1
  have y2 := blklt k2
  have K1 := Lib.hid k1
  have K2 := Lib.hid k2
  clear hb k0 k1 k2 q0 q1 K0 HB1
  go_wp2_with fail
  go_loopw [26] (fun i wr => ∃ (k : Nat) (o : Value), k ≤ N ∧ i = .int .i64 k ∧ wr.heap[w2.heap.size]? = some (.cells #[.bool (scZ (T.take k) q), .int .i64 tn, .int .u32 te, .int .i64 s, o] 59 (0, 0)) ∧ wr.heap[w.heap.size + 1]? = some (.cells #[.int .i64 q.1, .int .i64 q.2] 38 (0, 0)) ∧ wr.heap[w.heap.size + 1 + 1]? = some (.cells #[.int .i64 0, .int .u32 0, .int .i64 0, .slice none 0 0] 34 (0, 0)) ∧ Hid (TmA (w2.heap.size + 1) wr o ((scX T q).take k)) ∧ Below w.heap.size w wr ∧ w2.heap.size ≤ wr.heap.size) (fun i _ => N - (intOf i).toNat)
  case atStart =>
    have hb2 := HB2.out
    have k1 := K1.out
    have k2 := K2.out
    exact ⟨0, .slice none 0 0, Nat.zero_le _, rfl, blknew _ _, blkA, blkA, Lib.hid TmA.nil, belA, by simp⟩
  case round =>
    obtain ⟨k, o, hk, rfl, b0, b1, b2, hTm, hB, hzz⟩ := hrel
    obtain ⟨W0, rfl⟩ : ∃ x, x = wr := ⟨_, rfl⟩
    obtain ⟨⟨p0, p1, p2, p3, p4⟩, fz⟩ := blk5 b0
    obtain ⟨q0, q1⟩ := blkc2 b1
    obtain ⟨⟨r0, r1, r2, r3⟩, f0, f1, f2, f3⟩ := blk4 b2
    have z0 := blklt b0
    have z1 := blklt b1
    have z2 := blklt b2
    have B0 := Lib.hid b0
    have B1 := Lib.hid b1
    have B2 := Lib.hid b2
    have hzB := hB.size
    by_cases hlt : k < N
    · have hk8 : (k : Int) < (N : Int) := by omega
      obtain ⟨_, _, hv, _, _, _, hel⟩ := lstTerm HT.out
      injection hv with e1 e2 e3
      obtain ⟨bl, off, e4, hel⟩ := hel (by omega)
      rw [← e1] at e4
      subst e4
      obtain ⟨d, hd, hok, x0, x1, x2, x3, x4⟩ := hel k (by omega)
      have zb := World.block_lt_of_cell? _ _ x0
      simp only at zb
      replace x0 := bkeep hB x0
      replace x1 := bkeep hB x1
      replace x2 := bkeep hB x2
      replace x3 := bkeep hB x3
      replace x4 := bkeep hB x4
      have HOK := Lib.hid hok
      have HI := Lib.hid (HIN.out d (List.mem_of_getElem? hd))
      have hnz := Lib.hid (scZ_take (q := q) hd)
      obtain ⟨R, hR⟩ : ∃ R, Hid (kD (mulO d.2 q) = R) := ⟨_, Lib.hid rfl⟩
      have hnx : Hid ((scX T q).take (k + 1) = (scX T q).take k ++ [(d.1, R)]) := Lib.hid (by rw [List.take_add_one, scX_at (q := q) hd, hR.out]; rfl)
      have HRO : Hid (okFr R) := Lib.hid (by rw [← hR.out]; exact inF_okB (kmulI HI.out HQ.out))
      have hlk : Hid (((scX T q).take k).length ≤ N) := Lib.hid (by rw [List.length_take, hMl.out]; omega)
      obtain ⟨G, hG⟩ : ∃ G, Hid (scZ (T.take k) q = G) := ⟨_, Lib.hid rfl⟩
      rw [hG.out] at p0 B0 hnz
      have hlt9 : bl < w2.heap.size := by have := HB2.out.size; omega
      clear hel hd hok e1 e2 e3 b0 b1 b2
      obtain ⟨Ao, capo, _, ho, _⟩ := hTm.out.own
      obtain ⟨no, hno⟩ : ∃ no, ((scX T q).take k).length = no := ⟨_, rfl⟩
      rw [hno] at ho
      have hTge : Hid (∀ q, o.ownBlock = some q → w2.heap.size + 1 ≤ q ∧ q < W0.heap.size) := Lib.hid hTm.out.ge
      subst ho
      clear hno
      have CG : Hid ((W0.alloc (.cells #[.int .i64 d.1.1, .int .i64 d.1.2.1, .int .u32 d.1.2.2, .int .i64 d.2.1, .int .i64 d.2.2] 63)).drew.cell? ⟨w2.heap.size, 0, none⟩ = some (.bool G)) := Lib.hid (bkeep (bdrew1 (bal (Below.refl _ _) _)) p0)
      have KP := Lib.hid (show (W0.alloc (.cells #[.int .i64 d.1.1, .int .i64 d.1.2.1, .int .u32 d.1.2.2, .int .i64 d.2.1, .int .i64 d.2.2] 63)).drew.heap[w2.heap.size]? = _ from blkdrew (blkal B0.out _))
      have KP1 := Lib.hid (show (W0.alloc (.cells #[.int .i64 d.1.1, .int .i64 d.1.2.1, .int .u32 d.1.2.2, .int .i64 d.2.1, .int .i64 d.2.2] 63)).drew.heap[w.heap.size + 1]? = _ from blkdrew (blkal B1.out _))
      have KP2 := Lib.hid (show (W0.alloc (.cells #[.int .i64 d.1.1, .int .i64 d.1.2.1, .int .u32 d.1.2.2, .int .i64 d.2.1, .int .i64 d.2.2] 63)).drew.heap[w.heap.size + 1 + 1]? = _ from blkdrew (blkal B2.out _))
      have HTP := Lib.hid (hTm.out.below (show Below W0.heap.size W0 (W0.alloc (.cells #[.int .i64 d.1.1, .int .i64 d.1.2.1, .int .u32 d.1.2.2, .int .i64 d.2.1, .int .i64 d.2.2] 63)).drew from bdrew1 (bal (Below.refl _ _) _)))
      have HBP := Lib.hid (show Below w.heap.size w (W0.alloc (.cells #[.int .i64 d.1.1, .int .i64 d.1.2.1, .int .u32 d.1.2.2, .int .i64 d.2.1, .int .i64 d.2.2] 63)).drew from bdrew1 (hB.alloc hzB _))
      have hszP : (W0.alloc (.cells #[.int .i64 d.1.1, .int .i64 d.1.2.1, .int .u32 d.1.2.2, .int .i64 d.2.1, .int .i64 d.2.2] 63)).drew.heap.size = W0.heap.size + 1 := by simp
      go_wp2_with fail
      (refine last_region (S := (fun w' => w'.cell? ⟨w2.heap.size, 4, none⟩ = some (.slice Ao no capo) ∧ w'.cell? ⟨W0.heap.size, 0, none⟩ = some (.int .i64 d.1.1) ∧ w'.cell? ⟨W0.heap.size, 1, none⟩ = some (.int .i64 d.1.2.1) ∧ w'.cell? ⟨W0.heap.size, 2, none⟩ = some (.int .u32 d.1.2.2) ∧ w'.cell? ⟨W0.heap.size, 3, none⟩ = some (.int .i64 d.2.1) ∧ w'.cell? ⟨W0.heap.size, 4, none⟩ = some (.int .i64 d.2.2) ∧ w'.cell? ⟨w.heap.size + 1, 0, none⟩ = some (.int .i64 q.1) ∧ w'.cell? ⟨w.heap.size + 1, 1, none⟩ = some (.int .i64 q.2))) 19 (by kernel_rfl) ?_ (fun hHeld => ?_); (focus (first | exact hS | (simp [*, go_sem]; done) | fail)); refine last_take 0 (some 30) (v := ?_) rfl (by kernel_rfl) (by kernel_rfl) (by kernel_rfl) (by kernel_rfl) (by decide) (by kernel_rfl) (fun _ _ _ h => h) (Or.inl ⟨by kernel_rfl, ?_⟩) (by assumption) ?_; rotate_left; (focus (intro w' hSw; (try dsimp only at hSw); go_simp; (try with_reducible rfl))); (try simp only [Act.put, nA, nB, nC]); refine last_take 1 (some 31) (v := ?_) rfl (by kernel_rfl) (by kernel_rfl) (by kernel_rfl) (by kernel_rfl) (by decide) (by kernel_rfl) (fun _ _ _ h => h) (Or.inl ⟨by kernel_rfl, ?_⟩) (by assumption) ?_; rotate_left; (focus (intro w' hSw; (try dsimp only at hSw); go_simp; (try with_reducible rfl))); (try simp only [Act.put, nA, nB, nC]); refine last_take 2 (some 32) (v := ?_) rfl (by kernel_rfl) (by kernel_rfl) (by kernel_rfl) (by kernel_rfl) (by decide) (by kernel_rfl) (fun _ _ _ h => h) (Or.inl ⟨by kernel_rfl, ?_⟩) (by assumption) ?_; rotate_left; (focus (intro w' hSw; (try dsimp only at hSw); go_simp; (try with_reducible rfl))); (try simp only [Act.put, nA, nB, nC]); refine last_take 3 (some 33) (v := ?_) rfl (by kernel_rfl) (by kernel_rfl) (by kernel_rfl) (by kernel_rfl) (by decide) (by kernel_rfl) (fun _ _ _ h => h) (Or.inl ⟨by kernel_rfl, ?_⟩) (by assumption) ?_; rotate_left; (focus (intro w' hSw; (try dsimp only at hSw); go_simp; (try with_reducible rfl))); (try simp only [Act.put, nA, nB, nC]); refine last_take 4 (some 34) (v := ?_) rfl (by kernel_rfl) (by kernel_rfl) (by kernel_rfl) (by kernel_rfl) (by decide) (by kernel_rfl) (fun _ _ _ h => h) (Or.inl ⟨by kernel_rfl, ?_⟩) (by assumption) ?_; rotate_left; (focus (intro w' hSw; (try dsimp only at hSw); go_simp; (try with_reducible rfl))); (try simp only [Act.put, nA, nB, nC]); refine last_take 5 (some 35) (v := ?_) rfl (by kernel_rfl) (by kernel_rfl) (by kernel_rfl) (by kernel_rfl) (by decide) (by kernel_rfl) (fun _ _ _ h => h) (Or.inl ⟨by kernel_rfl, ?_⟩) (by assumption) ?_; rotate_left; (focus (intro w' hSw; (try dsimp only at hSw); go_simp; (try with_reducible rfl))); (try simp only [Act.put, nA, nB, nC]); refine last_take 6 (some 36) (v := ?_) rfl (by kernel_rfl) (by kernel_rfl) (by kernel_rfl) (by kernel_rfl) (by decide) (by kernel_rfl) (fun _ _ _ h => h) (Or.inl ⟨by kernel_rfl, ?_⟩) (by assumption) ?_; rotate_left; (focus (intro w' hSw; (try dsimp only at hSw); go_simp; (try with_reducible rfl))); (try simp only [Act.put, nA, nB, nC]); refine last_take 7 (some 37) (v := ?_) rfl (by kernel_rfl) (by kernel_rfl) (by kernel_rfl) (by kernel_rfl) (by decide) (by kernel_rfl) (fun _ _ _ h => h) (Or.inl ⟨by kernel_rfl, ?_⟩) (by assumption) ?_; rotate_left; (focus (intro w' hSw; (try dsimp only at hSw); go_simp; (try with_reducible rfl))); (try simp only [Act.put, nA, nB, nC]); refine last_take 8 (some 38) (v := ?_) rfl (by kernel_rfl) (by kernel_rfl) (by kernel_rfl) (by kernel_rfl) (by decide) (by kernel_rfl) (fun _ _ _ h => h) (Or.inl ⟨by kernel_rfl, ?_⟩) (by assumption) ?_; rotate_left; (focus (intro w' hSw; (try dsimp only at hSw); go_simp; (try with_reducible rfl))); (try simp only [Act.put, nA, nB, nC]); refine last_take 9 (some 39) (v := ?_) rfl (by kernel_rfl) (by kernel_rfl) (by kernel_rfl) (by kernel_rfl) (by decide) (by kernel_rfl) (fun _ _ _ h => h) (Or.inl ⟨by kernel_rfl, ?_⟩) (by assumption) ?_; rotate_left; (focus (intro w' hSw; (try dsimp only at hSw); go_simp; (try with_reducible rfl))); (try simp only [Act.put, nA, nB, nC]); refine last_take 10 (some 40) (v := ?_) rfl (by kernel_rfl) (by kernel_rfl) (by kernel_rfl) (by kernel_rfl) (by decide) (by kernel_rfl) (fun _ _ _ h => h) (Or.inl ⟨by kernel_rfl, ?_⟩) (by assumption) ?_; rotate_left; (focus (intro w' hSw; (try dsimp only at hSw); go_simp; (try with_reducible rfl))); (try simp only [Act.put, nA, nB, nC]); refine last_take 11 (some 41) (v := ?_) rfl (by kernel_rfl) (by kernel_rfl) (by kernel_rfl) (by kernel_rfl) (by decide) (by kernel_rfl) (fun _ _ _ h => h) (Or.inl ⟨by kernel_rfl, ?_⟩) (by assumption) ?_; rotate_left; (focus (intro w' hSw; (try dsimp only at hSw); go_simp; (try with_reducible rfl))); (try simp only [Act.put, nA, nB, nC]); refine last_take 12 (some 42) (v := ?_) rfl (by kernel_rfl) (by kernel_rfl) (by kernel_rfl) (by kernel_rfl) (by decide) (by kernel_rfl) (fun _ _ _ h => h) (Or.inl ⟨by kernel_rfl, ?_⟩) (by assumption) ?_; rotate_left; (focus (intro w' hSw; (try dsimp only at hSw); go_simp; (try with_reducible rfl))); (try simp only [Act.put, nA, nB, nC]); refine last_ready (i := 13) (by kernel_rfl) rfl (fun K hK => ?_); go_simp; (go_at_call 25; refine Calls.mono (kmul_any w2.heap.size 0 G d.2 q _ (blklt KP.out) CG.out ((blk5 KP.out).2 0) HI.out HQ.out) ?_; rw [hR.out]; rintro e0 w3 ⟨rfl, hb⟩; have hfl : Fl w2.heap.size 0 _ _ w3 := hb; have hS := And.intro (hfl.keep CG.out (by simp) hHeld.1) (And.intro (hfl.keep CG.out (by simp) hHeld.2.1) (And.intro (hfl.keep CG.out (by simp) hHeld.2.2.1) (And.intro (hfl.keep CG.out (by simp) hHeld.2.2.2.1) (And.intro (hfl.keep CG.out (by simp) hHeld.2.2.2.2.1) (And.intro (hfl.keep CG.out (by simp) hHeld.2.2.2.2.2.1) (And.intro (hfl.keep CG.out (by simp) hHeld.2.2.2.2.2.2.1) (hfl.keep CG.out (by simp) hHeld.2.2.2.2.2.2.2))))))); have K3 : Hid (w3.heap[w2.heap.size]? = _) := Lib.hid ((hb.block _ (blklt KP.out)).trans (blkset0 KP.out 0 _)); have K31 := Lib.hid (fl_blk hfl KP1.out (by omega)); have K32 := Lib.hid (fl_blk hfl KP2.out (by omega)); have HT3 : Hid (TmA (w2.heap.size + 1) w3 (.slice Ao no capo) ((scX T q).take k)) := Lib.hid (HTP.out.move fun q h1 h2 => (hb.block q h2).trans (Below.heap_setCell _ ⟨w2.heap.size, 0, none⟩ _ q (by show q ≠ w2.heap.size; omega))); have HB3 := Lib.hid ((Below.setCell HBP.out (by show w.heap.size ≤ w2.heap.size; omega) _).trans (hb.mono (by rw [hszP]; omega))); have hz3 : W0.heap.size + 1 ≤ w3.heap.size := (by have := hfl.size; rw [hszP] at this; exact this); have z31 : w2.heap.size < w3.heap.size := (by omega); have z32 : W0.heap.size < w3.heap.size := (by omega); have z33 : w.heap.size + 1 < w3.heap.size := (by omega); clear hb hfl); go_wp2_with fail; refine hK.out _ _ ?_ (fun hHeld => ?_); (focus (first | exact hS | (simp [*, go_sem]; done) | fail)); clear hK K; (try simp only [Act.put, nA, nB, nC]); refine last_take 14 (some 44) (v := ?_) rfl (by kernel_rfl) (by kernel_rfl) (by kernel_rfl) (by kernel_rfl) (by decide) (by kernel_rfl) (fun _ _ _ h => h) (Or.inl ⟨by kernel_rfl, ?_⟩) (by assumption) ?_; rotate_left; (focus (intro w' hSw; (try dsimp only at hSw); go_simp; (try with_reducible rfl))); (try simp only [Act.put, nA, nB, nC]); refine last_ready (i := 15) (by kernel_rfl) rfl (fun K hK => ?_); (try go_simp); refine hK.out _ _ ?_ (fun hHeld => ?_); (focus (first | exact hS | (simp [*, go_sem]; done) | fail)); clear hK K; (try simp only [Act.put, nA, nB, nC]); refine last_ready (i := 16) (by kernel_rfl) rfl (fun K hK => ?_); (rw [if_pos (by simp [Region.wanted])]; refine wp_append_terms _ (B := w2.heap.size + 1) (L := (scX T q).take k) (M := [(d.1, R)]) (HT3.out.below (by repeat (first | with_reducible exact Below.refl _ _ | with_reducible refine bal ?_ _ | with_reducible refine bdrew1 ?_))) (TmA.one (B := w3.heap.size) (g := w3.heap.size) (d := (d.1, R)) (by repeat (first | exact blknew _ _ | with_reducible refine blkdrew ?_)) (Nat.le_refl _) ⟨HOK.out.1, HRO.out⟩).lst (by have := hlk.out; simp; omega) (by simp; omega) (.tmp 34) (.tmp 45) rfl rfl rfl ?_; intro v4 w4 hA4 hb4 hg4 hq4; obtain ⟨A4, cap4, F4, hv4, _⟩ := hA4.own; obtain ⟨n4, hn4⟩ : ∃ n, ((scX T q).take k ++ [(d.1, R)]).length = n := ⟨_, rfl⟩; rw [hn4] at hv4; subst hv4; clear hn4; have HA4 := Lib.hid hA4; have hn1 : Value.ownBlock (.slice Ao no capo) ≠ some W0.heap.size := (fun e => by have := (hTge.out _ e).2; omega); have hn2 : Value.ownBlock (.slice Ao no capo) ≠ some w2.heap.size := (fun e => by have := (hTge.out _ e).1; omega); have hn3 : Value.ownBlock (.slice Ao no capo) ≠ some (w.heap.size + 1) := (fun e => by have := (hTge.out _ e).1; omega); have hS := And.intro (grow_keep hg4 hn2 hHeld.1) (And.intro (grow_keep hg4 hn1 hHeld.2.1) (And.intro (grow_keep hg4 hn1 hHeld.2.2.1) (And.intro (grow_keep hg4 hn1 hHeld.2.2.2.1) (And.intro (grow_keep hg4 hn1 hHeld.2.2.2.2.1) (And.intro (grow_keep hg4 hn1 hHeld.2.2.2.2.2.1) (And.intro (grow_keep hg4 hn3 hHeld.2.2.2.2.2.2.1) (grow_keep hg4 hn3 hHeld.2.2.2.2.2.2.2))))))); have K4 : Hid (w4.heap[w2.heap.size]? = _) := Lib.hid ((hb4.block _ (by omega)).trans ((Below.heap_alloc _ _ _ (by omega)).trans K3.out)); have K41 : Hid (w4.heap[w.heap.size + 1]? = _) := Lib.hid ((hb4.block _ (by omega)).trans ((Below.heap_alloc _ _ _ (by omega)).trans K31.out)); have K42 : Hid (w4.heap[w.heap.size + 1 + 1]? = _) := Lib.hid ((hb4.block _ (by omega)).trans ((Below.heap_alloc _ _ _ (by omega)).trans K32.out)); have fz4 := (blk5 K4.out).2; have yk4 := blklt K4.out; have HB4 := Lib.hid ((HB3.out.alloc HB3.out.size _).trans (hb4.mono (by omega))); have hz4 := hb4.size; clear hA4 hb4 hg4 hq4 hn1 hn2 hn3); refine hK.out _ _ ?_ (fun hHeld => ?_); (focus (first | exact hS | (simp [*, go_sem]; done) | fail)); clear hK K; (try simp only [Act.put, nA, nB, nC]); refine last_take 17 (some 47) (v := ?_) rfl (by kernel_rfl) (by kernel_rfl) (by kernel_rfl) (by kernel_rfl) (by decide) (by kernel_rfl) (fun _ _ _ h => h) (Or.inl ⟨by kernel_rfl, ?_⟩) (by assumption) ?_; rotate_left; (focus (intro w' hSw; (try dsimp only at hSw); go_simp; (try with_reducible rfl))); (try simp only [Act.put, nA, nB, nC]); refine last_take 18 (some 48) (v := ?_) rfl (by kernel_rfl) (by kernel_rfl) (by kernel_rfl) (by kernel_rfl) (by decide) (by kernel_rfl) (fun _ _ _ h => h) (Or.inl ⟨by kernel_rfl, ?_⟩) (by assumption) ?_; rotate_left; (focus (intro w' hSw; (try dsimp only at hSw); go_simp; (try with_reducible rfl))); (try simp only [Act.put, nA, nB, nC]); refine last_end (by kernel_rfl) rfl (fun K hK => ?_); (try go_simp); refine hK.out _ _ ?_; clear hK K hHeld; (try simp only [Act.put, nA, nB, nC]); refine last_done (by kernel_rfl) ?_ _)
      go_wp2_with fail
      go_roundw
      case rel =>
        refine ⟨k + 1, .slice A4 n4 cap4, by omega, by go_num, by rw [hnz.out]; exact blkset0 K4.out 4 _, blkset K41.out (by show w.heap.size + 1 ≠ w2.heap.size; omega) _, blkset K42.out (by show w.heap.size + 1 + 1 ≠ w2.heap.size; omega) _, Lib.hid ?_, Below.setCell HB4.out (by show w.heap.size ≤ w2.heap.size; omega) _, by simp; omega⟩
        rw [hnx.out]
        exact HA4.out.move fun q h1 _ => Below.heap_setCell _ ⟨w2.heap.size, 4, none⟩ _ q (by show q ≠ w2.heap.size; omega)
      case measure => simp [intOf]; omega
    · have e : k = N := by omega
      subst e
      have htk : Hid ((scX T q).take k = scX T q) := Lib.hid (List.take_of_length_le (by rw [hMl.out]; exact Nat.le_refl _))
      have hzk : Hid (scZ (T.take k) q = scZ T q) := Lib.hid (by rw [List.take_of_length_le (by rw [hN.out]; exact Nat.le_refl _)])
      have hTm2 := hTm.out
      rw [htk.out] at hTm2
      rw [hzk.out] at B0
      have HTOLD := Lib.hid (smTold_any W0 w2.heap.size (scZ T q) tn te s (scX T q) o B0.out hTm2.lst (show (scX T q).length ≤ 1048576 by rw [hMl.out]; omega))
      clear hTm2 b0 b1 b2
      go_wp2_with fail
      refine Calls.mono HTOLD.out ?_
      rintro e0 w5 ⟨A5, cap5, F5, rfl, hO5, hb5⟩
      have kr := bblk hb5 z2 B2.out
      have hbb : Below w.heap.size w w5 := hB.trans (hb5.mono hzB)
      obtain ⟨C, hC⟩ : ∃ C, Hid (tdC (scZ T q) (scX T q) = C) := ⟨_, Lib.hid rfl⟩
      rw [hC.out] at hO5 ⊢
      obtain ⟨XL, hXL, NX, hNX⟩ : ∃ XL : List Trm, Hid (tdL C (nzT (scX T q)) = XL) ∧ ∃ NX : Nat, Hid (XL.length = NX) := ⟨_, Lib.hid rfl, _, Lib.hid rfl⟩
      rw [hXL.out] at hO5 ⊢
      rw [hNX.out] at hO5 ⊢
      have HO5 := Lib.hid hO5
      have hzz5 : W0.heap.size ≤ w5.heap.size := hb5.size
      obtain ⟨⟨c50, c51, c52, c53⟩, f50, f51, f52, f53⟩ := blk4 kr
      have zz5 := blklt kr
      clear hO5 hb5 kr
      go_wp2_with fail
      refine bodyPost_ret (v := .tuple #[.agg #[.int .i64 (tdT C (tn, te)).1, .int .u32 (tdT C (tn, te)).2, .int .i64 (tdS C s), .slice A5 NX cap5], .int .i64 C]) (by simp [results, Try.results9, go_sem, *]) rfl ?_
      rw [show scC T q = tdC (scZ T q) (scX T q) from rfl, hC.out, hXL.out]
      refine ⟨A5, cap5, F5, ?_, ?_, ?_⟩
      · rw [hNX.out]
      · rw [hNX.out]
        refine HO5.out.move (by omega) fun q h1 _ => ?_
        have hne : q ≠ w.heap.size + 1 + 1 := by omega
        exact (Below.heap_setCell _ ⟨w.heap.size + 1 + 1, 3, none⟩ _ q hne).trans ((Below.heap_setCell _ ⟨w.heap.size + 1 + 1, 2, none⟩ _ q hne).trans ((Below.heap_setCell _ ⟨w.heap.size + 1 + 1, 1, none⟩ _ q hne).trans (Below.heap_setCell _ ⟨w.heap.size + 1 + 1, 0, none⟩ _ q hne)))
      · exact belA
end Go.Proofs.Ytpcjinbbgnmchaa

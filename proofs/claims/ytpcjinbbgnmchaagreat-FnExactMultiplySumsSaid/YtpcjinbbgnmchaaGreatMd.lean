/- Products of sums: spec.MultiplySums. -/
import Derived.Test.YtpcjinbbgnmchaaGreatMc
namespace Go.Proofs.YtpcjinbbgnmchaaGreat
open Go.ChangeShapes Go.WideShapes Go.RowKit
set_option linter.unusedVariables false
set_option linter.unusedSimpArgs false
attribute [local irreducible] Calls
set_option maxHeartbeats 4000000 in
set_option maxRecDepth 100000 in
theorem l05Product_big (w : World) (ba bb : Nat) (k te s s' : Int) (v u : Value) (hba : w.heap[ba]? = some (.cells #[.int .i64 k, .int .u32 te, .int .i64 s, v] 34 (0, 0))) (hbb : w.heap[bb]? = some (.cells #[.int .i64 k, .int .u32 te, .int .i64 s', u] 34 (0, 0))) (h1 : 0 ≤ s ∧ s ≤ 5) (h2 : 0 ≤ s' ∧ s' ≤ 5) (hk : 0 ≤ k ∧ k ≤ 3) (hbig : 5 < s + s' - k) :
    Calls Tryz.prog 40 #[.pointer (some ⟨ba, 0, none⟩), .pointer (some ⟨bb, 0, none⟩)] w (SumRet w.heap.size w 2 (0, 0) 0 []) := by
  obtain ⟨a0, a1, a2, a3⟩ := blkc4 hba
  obtain ⟨b0, b1, b2, b3⟩ := blkc4 hbb
  have yba := blklt hba
  have ybb := blklt hbb
  obtain ⟨m, hm⟩ : ∃ m, s + s' - k = m := ⟨_, rfl⟩
  have HW : Hid (IntKind.i64.wrap (IntKind.i64.wrap (s + s') - k) = m) := Lib.hid (by
    have e1 : IntKind.i64.wrap (s + s') = s + s' := IntWalk.i64_in _ (by omega)
    have e2 : IntKind.i64.wrap (s + s' - k) = s + s' - k := IntWalk.i64_in _ (by omega)
    rw [e1, e2, hm])
  rw [hm] at hbig
  clear hba hbb h1 h2 hk hm
  go_enter Tryz.func40, Tryz.ntmps40
  go_wp2_with fail
  (refine wp_region_held_drew (S := (fun w' => w'.cell? ⟨ba, 0, none⟩ = some (.int .i64 k) ∧ w'.cell? ⟨ba, 2, none⟩ = some (.int .i64 s) ∧ w'.cell? ⟨bb, 2, none⟩ = some (.int .i64 s'))) (by kernel_rfl) ?_ (fun hHeld => ?_); (focus (first | exact hS | (simp [*, go_sem]; done) | fail)); refine rt 0 (some 20) (v := ?_) rfl rfl ?_ ?_; rotate_left; (focus (intro w' hSw; (try dsimp only at hSw); go_simp; (try with_reducible rfl))); (try simp only [Act.put, nA, nB, nC]); refine rt 1 (some 21) (v := ?_) rfl rfl ?_ ?_; rotate_left; (focus (intro w' hSw; (try dsimp only at hSw); go_simp; (try with_reducible rfl))); (try simp only [Act.put, nA, nB, nC]); refine rt 2 (some 22) (v := ?_) rfl rfl ?_ ?_; rotate_left; (focus (intro w' hSw; (try dsimp only at hSw); go_simp; (try with_reducible rfl))); (try simp only [Act.put, nA, nB, nC]); refine rt 3 (some 23) (v := ?_) rfl rfl ?_ ?_; rotate_left; (focus (intro w' hSw; (try dsimp only at hSw); go_simp; (try with_reducible rfl))); (try simp only [Act.put, nA, nB, nC]); refine rt 4 (some 24) (v := ?_) rfl rfl ?_ ?_; rotate_left; (focus (intro w' hSw; (try dsimp only at hSw); go_simp; (try with_reducible rfl))); (try simp only [Act.put, nA, nB, nC]); refine rt 5 (some 25) (v := ?_) rfl rfl ?_ ?_; rotate_left; (focus (intro w' hSw; (try dsimp only at hSw); go_simp; (try with_reducible rfl))); (try simp only [Act.put, nA, nB, nC]); refine rt 6 (some 26) (v := ?_) rfl rfl ?_ ?_; rotate_left; (focus (intro w' hSw; (try dsimp only at hSw); go_simp; (try with_reducible rfl))); (try simp only [Act.put, nA, nB, nC]); refine rt 7 (some 27) (v := ?_) rfl rfl ?_ ?_; rotate_left; (focus (intro w' hSw; (try dsimp only at hSw); go_simp; (try with_reducible rfl))); (try simp only [Act.put, nA, nB, nC]); refine rt 8 (some 28) (v := ?_) rfl rfl ?_ ?_; rotate_left; (focus (intro w' hSw; (try dsimp only at hSw); go_simp; (try with_reducible rfl))); (try simp only [Act.put, nA, nB, nC]); refine rt 9 (some 29) (v := ?_) rfl rfl ?_ ?_; rotate_left; (focus (intro w' hSw; (try dsimp only at hSw); go_simp; (try with_reducible rfl))); (try simp only [Act.put, nA, nB, nC]); refine rt 10 (some 30) (v := ?_) rfl rfl ?_ ?_; rotate_left; (focus (intro w' hSw; (try dsimp only at hSw); go_simp; (try with_reducible rfl))); (try simp only [Act.put, nA, nB, nC]); refine rt 11 (some 31) (v := ?_) rfl rfl ?_ ?_; rotate_left; (focus (intro w' hSw; (try dsimp only at hSw); go_simp; (try with_reducible rfl))); (try simp only [Act.put, nA, nB, nC]); refine rt 12 (some 32) (v := ?_) rfl rfl ?_ ?_; rotate_left; (focus (intro w' hSw; (try dsimp only at hSw); go_simp; (try with_reducible rfl))); (try simp only [Act.put, nA, nB, nC]); refine rt 13 (some 33) (v := ?_) rfl rfl ?_ ?_; rotate_left; (focus (intro w' hSw; (try dsimp only at hSw); go_simp; (try with_reducible rfl))); (try simp only [Act.put, nA, nB, nC]); refine rt 14 (some 34) (v := ?_) rfl rfl ?_ ?_; rotate_left; (focus (intro w' hSw; (try dsimp only at hSw); go_simp; (try with_reducible rfl))); (try simp only [Act.put, nA, nB, nC]); refine rt 15 (some 6) (v := ?_) rfl rfl ?_ ?_; rotate_left; (focus (intro w' hSw; (try dsimp only at hSw); go_simp; (try with_reducible rfl))); (try simp only [Act.put, nA, nB, nC]); refine wpAnyH_done (by kernel_rfl) ?_ _)
  clear hHeld
  rw [HW.out]
  go_wp2_with fail
  refine bodyPost_ret (v := .tuple #[.agg #[.int .i64 0, .int .u32 0, .int .i64 0, .slice none 0 0], .int .i64 2]) (by simp [results, Tryz.results40, go_sem, *]) rfl ?_
  exact sumRet_no rfl rfl rfl belA rfl
theorem l05Product_ms (w : World) (ba bb : Nat) (tn te s s' : Int) (T U : List Trm) (v u : Value) (hba : w.heap[ba]? = some (.cells #[.int .i64 tn, .int .u32 te, .int .i64 s, v] 34 (0, 0))) (hbb : w.heap[bb]? = some (.cells #[.int .i64 tn, .int .u32 te, .int .i64 s', u] 34 (0, 0))) (hT : Lst shTerm w T v) (hU : Lst shTerm w U u) (he : 0 ≤ te ∧ te ≤ 4294967295) (h1 : sumOk tn te s T = true) (h2 : sumOk tn te s' U = true) :
    Calls Tryz.prog 40 #[.pointer (some ⟨ba, 0, none⟩), .pointer (some ⟨bb, 0, none⟩)] w (SumRet w.heap.size w (msC tn te s T tn te s' U) (tdT (msC tn te s T tn te s' U) (tn, te)) (msS tn te s T tn te s' U) (msL tn te s T tn te s' U)) := by
  obtain ⟨k, hk, hk3, hks, hs5⟩ := rs_sizes h1
  obtain ⟨k', hk', hk3', hks', hs5'⟩ := rs_sizes h2
  have hkk : k' = k := by omega
  subst hkk
  clear hk'
  subst hk
  have h3 : eq2 (k' : Int) te k' te = true := by simp [eq2]
  by_cases hm : s + s' - k' ≤ 5
  · obtain ⟨m, hm2⟩ : ∃ m : Nat, s + s' - (k' : Int) = m := ⟨(s + s' - (k' : Int)).toNat, by omega⟩
    have hc : msC k' te s T k' te s' U = ovC k' te m (mlD s s' T U) (mlZ s s' T U) := by
      unfold msC
      rw [h1, h2, h3, hm2]
      simp only [Bool.and_self, if_true, Int.toNat_natCast]
      rw [if_pos (by omega)]
    have hl : msL k' te s T k' te s' U = tdL (ovC k' te m (mlD s s' T U) (mlZ s s' T U)) (nzT (ovX (flagsF k' te m []) (mlD s s' T U))) := by
      unfold msL
      rw [hc, hm2, Int.toNat_natCast, Int.toNat_natCast]
    have hsz : msS k' te s T k' te s' U = tdS (ovC k' te m (mlD s s' T U) (mlZ s s' T U)) m := by
      unfold msS
      rw [hc, hm2]
    rw [hc, hl, hsz]
    exact l05Product_any w ba bb k' m te s s' T U v u hba hbb hT hU he h1 h2 hm2 (by omega) hk3 hks hks' hs5 hs5'
  · have hc : msC k' te s T k' te s' U = 2 := by
      unfold msC
      rw [h1, h2, h3, if_pos (show (true && true) = true from rfl), if_pos rfl, if_neg hm]
    have hn := ms_no hc (by decide)
    rw [hn.2.1, hn.2.2.1, hn.2.2.2, hc]
    exact l05Product_big w ba bb k' te s s' v u hba hbb (by omega) (by omega) (by omega) (by omega)
set_option maxHeartbeats 4000000 in
theorem sMultiplySums_any (w : World) (tn te s : Int) (T : List Trm) (v : Value) (tn' te' s' : Int) (U : List Trm) (u : Value) (hT : Lst shTerm w T v) (hU : Lst shTerm w U u) (he : 0 ≤ te ∧ te ≤ 4294967295) (he' : 0 ≤ te' ∧ te' ≤ 4294967295) :
    Calls Tryz.prog 13 #[.agg #[.int .i64 tn, .int .u32 te, .int .i64 s, v], .agg #[.int .i64 tn', .int .u32 te', .int .i64 s', u]] w (SumRet w.heap.size w (msC tn te s T tn' te' s' U) (tdT (msC tn te s T tn' te' s' U) (tn, te)) (msS tn te s T tn' te' s' U) (msL tn te s T tn' te' s' U)) := by
  have HT := Lib.hid hT
  have HU := Lib.hid hU
  have HE := Lib.hid he
  have HE' := Lib.hid he'
  obtain ⟨A, cap, rfl, _, _⟩ := formTerm hT
  obtain ⟨A', cap', rfl, _, _⟩ := formTerm hU
  clear hT hU
  cases h1 : sumOk tn te s T
  · have hr := Lib.hid (ms_no (tn := tn) (te := te) (s := s) (T := T) (tn' := tn') (te' := te') (s' := s') (U := U) (c := 1) (by simp [msC, h1]) (by decide))
    have H1 := Lib.hid h1
    clear h1 he he'
    go_enter Tryz.func13, Tryz.ntmps13
    go_wp2_with (first | (go_at_call 30; refine Calls.mono (l05Ok_any _ w.heap.size tn te s T _ blkA (HT.out.below belA) HE.out) ?_; rw [H1.out]; rintro e w1 ⟨rfl, hb⟩; obtain ⟨X, m, rfl⟩ := plsOf hb; clear hb))
    refine bodyPost_ret (v := .tuple #[.agg #[.int .i64 0, .int .u32 0, .int .i64 0, .slice none 0 0], .int .i64 1]) (by simp [results, Tryz.results13, go_sem, *]) rfl ?_
    exact sumRet_no hr.out.2.1 hr.out.2.2.1 hr.out.2.2.2 belA hr.out.1
  have H1 := Lib.hid h1
  cases h2 : sumOk tn' te' s' U
  · have hr := Lib.hid (ms_no (tn := tn) (te := te) (s := s) (T := T) (tn' := tn') (te' := te') (s' := s') (U := U) (c := 1) (by simp [msC, h2]) (by decide))
    have H2 := Lib.hid h2
    clear h1 h2 he he'
    go_enter Tryz.func13, Tryz.ntmps13
    go_wp2_with (first | (go_at_call 30; refine Calls.mono (l05Ok_any _ w.heap.size tn te s T _ blkA (HT.out.below belA) HE.out) ?_; rw [H1.out]; rintro e w1 ⟨rfl, hb⟩; obtain ⟨X, m, rfl⟩ := plsOf hb; clear hb) | (go_at_call 30; refine Calls.mono (l05Ok_any _ (w.heap.size + 1) tn' te' s' U _ blkA (HU.out.below belA) HE'.out) ?_; rw [H2.out]; rintro e w1 ⟨rfl, hb⟩; obtain ⟨X, m, rfl⟩ := plsOf hb; clear hb))
    refine bodyPost_ret (v := .tuple #[.agg #[.int .i64 0, .int .u32 0, .int .i64 0, .slice none 0 0], .int .i64 1]) (by simp [results, Tryz.results13, go_sem, *]) rfl ?_
    exact sumRet_no hr.out.2.1 hr.out.2.2.1 hr.out.2.2.2 belA hr.out.1
  have H2 := Lib.hid h2
  cases h3 : eq2 tn te tn' te'
  · have hr := Lib.hid (ms_no (tn := tn) (te := te) (s := s) (T := T) (tn' := tn') (te' := te') (s' := s') (U := U) (c := 4) (by simp [msC, h1, h2, h3]) (by decide))
    clear h1 h2 he he'
    go_enter Tryz.func13, Tryz.ntmps13
    go_wp2_with (first | (go_at_call 30; refine Calls.mono (l05Ok_any _ w.heap.size tn te s T _ blkA (HT.out.below belA) HE.out) ?_; rw [H1.out]; rintro e w1 ⟨rfl, hb⟩; obtain ⟨X, m, rfl⟩ := plsOf hb; clear hb) | (go_at_call 30; refine Calls.mono (l05Ok_any _ (w.heap.size + 1) tn' te' s' U _ blkA (HU.out.below belA) HE'.out) ?_; rw [H2.out]; rintro e w1 ⟨rfl, hb⟩; obtain ⟨X, m, rfl⟩ := plsOf hb; clear hb))
    refine bodyPost_ret (v := .tuple #[.agg #[.int .i64 0, .int .u32 0, .int .i64 0, .slice none 0 0], .int .i64 4]) (by simp [results, Tryz.results13, go_sem, *]) rfl ?_
    exact sumRet_no hr.out.2.1 hr.out.2.2.1 hr.out.2.2.2 belA hr.out.1
  have h3' : tn' = tn ∧ te' = te := by simp [eq2] at h3; exact ⟨h3.1.symm, h3.2.symm⟩
  obtain ⟨rfl, rfl⟩ := h3'
  have HADD : Hid (∀ (W : World) (x y : Value), W.heap[w.heap.size]? = some (.cells #[.int .i64 tn', .int .u32 te', .int .i64 s, x] 34 (0, 0)) → W.heap[w.heap.size + 1]? = some (.cells #[.int .i64 tn', .int .u32 te', .int .i64 s', y] 34 (0, 0)) → Lst shTerm W T x → Lst shTerm W U y → Calls Tryz.prog 40 #[.pointer (some ⟨w.heap.size, 0, none⟩), .pointer (some ⟨w.heap.size + 1, 0, none⟩)] W (SumRet W.heap.size W (msC tn' te' s T tn' te' s' U) (tdT (msC tn' te' s T tn' te' s' U) (tn', te')) (msS tn' te' s T tn' te' s' U) (msL tn' te' s T tn' te' s' U))) := Lib.hid fun W x y k0 k1 hx hy => l05Product_ms W _ _ tn' te' s s' T U x y k0 k1 hx hy he' h1 h2
  obtain ⟨C, hC⟩ : ∃ C, msC tn' te' s T tn' te' s' U = C := ⟨_, rfl⟩
  obtain ⟨XS, hXS⟩ : ∃ XS, msS tn' te' s T tn' te' s' U = XS := ⟨_, rfl⟩
  obtain ⟨XL, hXL⟩ : ∃ XL, msL tn' te' s T tn' te' s' U = XL := ⟨_, rfl⟩
  obtain ⟨NX, hNX⟩ : ∃ NX : Nat, Hid (XL.length = NX) := ⟨_, Lib.hid rfl⟩
  rw [hC, hXS, hXL] at HADD ⊢
  clear h1 h2 he he' hC hXS hXL
  obtain ⟨N, hN⟩ : ∃ N : Nat, Hid (T.length = N) := ⟨_, Lib.hid rfl⟩
  obtain ⟨M, hM⟩ : ∃ M : Nat, Hid (U.length = M) := ⟨_, Lib.hid rfl⟩
  rw [hN.out, hM.out]
  rw [hN.out] at HT
  rw [hM.out] at HU
  go_enter Tryz.func13, Tryz.ntmps13
  go_wp2_with fail
  refine Calls.mono (l05Ok_any _ w.heap.size tn' te' s T _ blkA (HT.out.below belA) HE.out) ?_
  rw [H1.out]
  rintro e0 w1 ⟨rfl, hb⟩
  have k0 : w1.heap[w.heap.size]? = some (.cells #[.int .i64 tn', .int .u32 te', .int .i64 s, .slice A N cap] 34 (0, 0)) := bblk hb (by simp <;> omega) blkA
  have k1 : w1.heap[w.heap.size + 1]? = some (.cells #[.int .i64 tn', .int .u32 te', .int .i64 s', .slice A' M cap'] 34 (0, 0)) := bblk hb (by simp <;> omega) blkA
  have k2 : w1.heap[w.heap.size + 1 + 1]? = some (.cells #[.int .i64 0, .int .u32 0, .int .i64 0, .slice none 0 0] 34 (0, 0)) := bblk hb (by simp <;> omega) blkA
  have HB1 := Lib.hid (show Below w.heap.size w w1 from Below.trans belA (hb.mono (by simp <;> omega)))
  have K0 := Lib.hid k0
  have K1 := Lib.hid k1
  have K2 := Lib.hid k2
  clear hb k0 k1 k2
  go_wp2_with fail
  refine Calls.mono (l05Ok_any _ (w.heap.size + 1) tn' te' s' U _ K1.out (HU.out.below HB1.out) HE'.out) ?_
  rw [H2.out]
  rintro e0 w2 ⟨rfl, hb⟩
  have k0 := bblk hb (blklt K0.out) K0.out
  have k1 := bblk hb (blklt K1.out) K1.out
  have k2 := bblk hb (blklt K2.out) K2.out
  have HB2 := Lib.hid (show Below w.heap.size w w2 from HB1.out.trans (hb.mono HB1.out.size))
  obtain ⟨c0, c1, c2, c3⟩ := blkc4 k0
  obtain ⟨d0, d1, d2, d3⟩ := blkc4 k1
  have y0 := blklt k0
  have y1 := blklt k1
  have y2 := blklt k2
  have K02 := Lib.hid k0
  have K12 := Lib.hid k1
  have K22 := Lib.hid k2
  clear hb k0 k1 k2 K0 K1 K2 HB1
  go_wp2_with fail
  refine Calls.mono (HADD.out _ _ _ K02.out K12.out (HT.out.below HB2.out) (HU.out.below HB2.out)) ?_
  rintro e0 w4 ⟨A4, cap4, F4, rfl, hO4, hb⟩
  rw [hNX.out] at hO4 ⊢
  have HB4 := Lib.hid (HB2.out.trans (hb.mono HB2.out.size))
  have k24 := bblk hb y2 K22.out
  have HO4 := Lib.hid hO4
  obtain ⟨⟨g0, g1, g2, g3⟩, f0, f1, f2, f3⟩ := blk4 k24
  have y24 := blklt k24
  have hzz := HB2.out.size
  clear hO4 hb k24 c0 c1 c2 c3 d0 d1 d2 d3
  go_wp2_with fail
  refine bodyPost_ret (v := .tuple #[.agg #[.int .i64 (tdT C (tn', te')).1, .int .u32 (tdT C (tn', te')).2, .int .i64 XS, .slice A4 NX cap4], .int .i64 C]) (by simp [results, Tryz.results13, go_sem, *]) rfl ?_
  refine ⟨A4, cap4, F4, by rw [hNX.out], ?_, ?_⟩
  · rw [hNX.out]
    refine HO4.out.move (by omega) fun q h1 _ => ?_
    have hne : q ≠ w.heap.size + 1 + 1 := by omega
    exact (Below.heap_setCell _ ⟨w.heap.size + 1 + 1, 3, none⟩ _ q hne).trans ((Below.heap_setCell _ ⟨w.heap.size + 1 + 1, 2, none⟩ _ q hne).trans ((Below.heap_setCell _ ⟨w.heap.size + 1 + 1, 1, none⟩ _ q hne).trans (Below.heap_setCell _ ⟨w.heap.size + 1 + 1, 0, none⟩ _ q hne)))
  · have hb4 := HB4.out
    exact belA
end Go.Proofs.YtpcjinbbgnmchaaGreat

/- The sum of two sums: impl.AddSums. -/
import Derived.Test.YtpcjinbbgnmchaaGreatIe
import Derived.Test.YtpcjinbbgnmchaaGreatCa
import Derived.Test.YtpcjinbbgnmchaaGreatVr
namespace Go.Proofs.YtpcjinbbgnmchaaGreat
open Go.ChangeShapes Go.WideShapes Go.RowKit
set_option linter.unusedVariables false
set_option linter.unusedSimpArgs false
attribute [local irreducible] Calls
/-- The code; the terms. -/
def asC (tn te s : Int) (T : List Trm) (tn' te' s' : Int) (U : List Trm) : Int :=
  if sumOk tn te s T && sumOk tn' te' s' U then (if eq2 tn te tn' te' then (if s = s' then tdC (fI (T ++ U)).1 (fI (T ++ U)).2 else 2) else 4) else 1
def asL (tn te s : Int) (T : List Trm) (tn' te' s' : Int) (U : List Trm) : List Trm := tdL (asC tn te s T tn' te' s' U) (nzT (fI (T ++ U)).2)
theorem sum_flags {tn te s : Int} {T : List Trm} (h : sumOk tn te s T = true) {d : Trm} (hd : d ∈ T) : badT d = false ∧ outT tn te s d = false ∧ (lfF d.1, d.2) = d := by
  have h1 := okT_iff.1 (sumOk_mem h hd)
  refine ⟨?_, ?_, ?_⟩
  · unfold badT badFl badF
    rw [h1.1, h1.2.2.2.1]
    rfl
  · unfold outT
    rw [h1.2.1]
    rfl
  · unfold lfF
    rw [h1.2.2.1]
theorem anyT_none {P : Trm → Bool} {T : List Trm} (h : ∀ d ∈ T, P d = false) : anyT P T = false := by
  unfold anyT
  cases hb : T.any P
  · rfl
  · obtain ⟨d, hd, hp⟩ := List.any_eq_true.1 hb
    rw [h d hd] at hp
    cases hp
theorem sums_flags {tn te s : Int} {T U : List Trm} (h : sumOk tn te s T = true) (h' : sumOk tn te s U = true) : anyT badT (T ++ U) = false ∧ anyT (outT tn te s) (T ++ U) = false ∧ lsT (T ++ U) = T ++ U ∧ tyC tn te s = 0 := by
  have H : ∀ d ∈ T ++ U, badT d = false ∧ outT tn te s d = false ∧ (lfF d.1, d.2) = d := fun d hd => by
    rcases List.mem_append.1 hd with hd | hd
    · exact sum_flags h hd
    · exact sum_flags h' hd
  refine ⟨anyT_none fun d hd => (H d hd).1, anyT_none fun d hd => (H d hd).2.1, ?_, ?_⟩
  · unfold lsT
    exact (List.map_congr_left fun d hd => (H d hd).2.2).trans (List.map_id' _)
  · have h1 := sumOk_iff.1 h
    unfold tyC
    rw [h1.1, h1.2.1]
    rfl
theorem sums_frame {tn te s : Int} {T U : List Trm} (h : sumOk tn te s T = true) (h' : sumOk tn te s U = true) : ∀ x ∈ T ++ U, x.1.1 = tn ∧ x.1.2.1 = s ∧ inF x.2 := by
  obtain ⟨h1, h2, h3, _⟩ := sums_flags h h'
  have := lsT_frame h1 h2
  rwa [h3] at this
theorem sfC_sums {tn te s : Int} {T U : List Trm} (h : sumOk tn te s T = true) (h' : sumOk tn te s U = true) : sfC tn te s (T ++ U) = tdC (fI (T ++ U)).1 (fI (T ++ U)).2 := by
  obtain ⟨h1, h2, h3, h4⟩ := sums_flags h h'
  unfold sfC
  rw [h1, h2, h3, if_pos h4]
  rfl
set_option maxHeartbeats 4000000 in
theorem AddSums_any (w : World) (tn te s : Int) (T : List Trm) (v : Value) (tn' te' s' : Int) (U : List Trm) (u : Value) (hT : Lst shTerm w T v) (hU : Lst shTerm w U u) (he : 0 ≤ te ∧ te ≤ 4294967295) (he' : 0 ≤ te' ∧ te' ≤ 4294967295) :
    Calls Tryz.prog 18 #[.agg #[.int .i64 tn, .int .u32 te, .int .i64 s, v], .agg #[.int .i64 tn', .int .u32 te', .int .i64 s', u]] w (SumRet w.heap.size w (asC tn te s T tn' te' s' U) (tdT (asC tn te s T tn' te' s' U) (tn, te)) (tdS (asC tn te s T tn' te' s' U) s) (asL tn te s T tn' te' s' U)) := by
  have HT := Lib.hid hT
  have HU := Lib.hid hU
  have HE := Lib.hid he
  have HE' := Lib.hid he'
  obtain ⟨A, cap, rfl, _, _⟩ := formTerm hT
  obtain ⟨A', cap', rfl, _, _⟩ := formTerm hU
  clear hT hU
  unfold asL
  cases h1 : sumOk tn te s T
  · have hr : Hid (asC tn te s T tn' te' s' U = 1) := Lib.hid (by simp [asC, h1])
    have H1 := Lib.hid h1
    clear h1 he he'
    go_enter Tryz.func18, Tryz.ntmps18
    go_wp2_with (first | (go_at_call 35; refine Calls.mono (ValidSum_any _ tn te s T _ (HT.out.below belA) HE.out) ?_; rw [H1.out]; rintro e w1 ⟨rfl, hb⟩; obtain ⟨X, m, rfl⟩ := plsOf hb; clear hb))
    refine bodyPost_ret (v := .tuple #[.agg #[.int .i64 0, .int .u32 0, .int .i64 0, .slice none 0 0], .int .i64 1]) (by simp [results, Tryz.results18, go_sem, *]) rfl ?_
    rw [hr.out]
    exact sumRet_no rfl rfl rfl belA rfl
  have H1 := Lib.hid h1
  cases h2 : sumOk tn' te' s' U
  · have hr : Hid (asC tn te s T tn' te' s' U = 1) := Lib.hid (by simp [asC, h2])
    have H2 := Lib.hid h2
    clear h1 h2 he he'
    go_enter Tryz.func18, Tryz.ntmps18
    go_wp2_with (first | (go_at_call 35; refine Calls.mono (ValidSum_any _ tn te s T _ (HT.out.below belA) HE.out) ?_; rw [H1.out]; rintro e w1 ⟨rfl, hb⟩; obtain ⟨X, m, rfl⟩ := plsOf hb; clear hb) | (go_at_call 35; refine Calls.mono (ValidSum_any _ tn' te' s' U _ (HU.out.below belA) HE'.out) ?_; rw [H2.out]; rintro e w1 ⟨rfl, hb⟩; obtain ⟨X, m, rfl⟩ := plsOf hb; clear hb))
    refine bodyPost_ret (v := .tuple #[.agg #[.int .i64 0, .int .u32 0, .int .i64 0, .slice none 0 0], .int .i64 1]) (by simp [results, Tryz.results18, go_sem, *]) rfl ?_
    rw [hr.out]
    exact sumRet_no rfl rfl rfl belA rfl
  have H2 := Lib.hid h2
  cases h3 : eq2 tn te tn' te'
  · have hr : Hid (asC tn te s T tn' te' s' U = 4) := Lib.hid (by simp [asC, h1, h2, h3])
    clear h1 h2 he he'
    go_enter Tryz.func18, Tryz.ntmps18
    go_wp2_with (first | (go_at_call 35; refine Calls.mono (ValidSum_any _ tn te s T _ (HT.out.below belA) HE.out) ?_; rw [H1.out]; rintro e w1 ⟨rfl, hb⟩; obtain ⟨X, m, rfl⟩ := plsOf hb; clear hb) | (go_at_call 35; refine Calls.mono (ValidSum_any _ tn' te' s' U _ (HU.out.below belA) HE'.out) ?_; rw [H2.out]; rintro e w1 ⟨rfl, hb⟩; obtain ⟨X, m, rfl⟩ := plsOf hb; clear hb))
    refine bodyPost_ret (v := .tuple #[.agg #[.int .i64 0, .int .u32 0, .int .i64 0, .slice none 0 0], .int .i64 4]) (by simp [results, Tryz.results18, go_sem, *]) rfl ?_
    rw [hr.out]
    exact sumRet_no rfl rfl rfl belA rfl
  have h3' : tn' = tn ∧ te' = te := by simp [eq2] at h3; exact ⟨h3.1.symm, h3.2.symm⟩
  obtain ⟨rfl, rfl⟩ := h3'
  cases h4 : (s == s')
  · have h4' : ¬ s = s' := by simpa using h4
    have hr : Hid (asC tn' te' s T tn' te' s' U = 2) := Lib.hid (by unfold asC; rw [h1, h2, h3, if_neg h4']; rfl)
    have h5 : (s != s') = true := by simpa using h4'
    clear h1 h2 he he'
    go_enter Tryz.func18, Tryz.ntmps18
    go_wp2_with (first | (go_at_call 35; refine Calls.mono (ValidSum_any _ tn' te' s T _ (HT.out.below belA) HE.out) ?_; rw [H1.out]; rintro e w1 ⟨rfl, hb⟩; obtain ⟨X, m, rfl⟩ := plsOf hb; clear hb) | (go_at_call 35; refine Calls.mono (ValidSum_any _ tn' te' s' U _ (HU.out.below belA) HE'.out) ?_; rw [H2.out]; rintro e w1 ⟨rfl, hb⟩; obtain ⟨X, m, rfl⟩ := plsOf hb; clear hb))
    refine bodyPost_ret (v := .tuple #[.agg #[.int .i64 0, .int .u32 0, .int .i64 0, .slice none 0 0], .int .i64 2]) (by simp [results, Tryz.results18, go_sem, *]) rfl ?_
    rw [hr.out]
    exact sumRet_no rfl rfl rfl belA rfl
  have h4' : s = s' := by simpa using h4
  subst h4'
  have hlT : T.length ≤ 64 := (sumOk_iff.1 h1).2.2.1
  have hlU : U.length ≤ 64 := (sumOk_iff.1 h2).2.2.1
  have hr : Hid (asC tn' te' s T tn' te' s U = sfC tn' te' s (T ++ U)) := Lib.hid (by rw [sfC_sums h1 h2]; simp [asC, h1, h2, h3])
  have hls := (sums_flags h1 h2).2.2.1
  have HSF : Hid (∀ (W : World) (x : Value), Lst shTerm W (T ++ U) x → Calls Tryz.prog 50 #[.agg #[.int .i64 tn', .int .u32 te'], .int .i64 s, x] W (SumRet W.heap.size W (sfC tn' te' s (T ++ U)) (tdT (sfC tn' te' s (T ++ U)) (tn', te')) (tdS (sfC tn' te' s (T ++ U)) s) (tdL (sfC tn' te' s (T ++ U)) (nzT (fI (T ++ U)).2)))) := Lib.hid fun W x hx => by
    have h := SumOfFlags_any W tn' te' s (T ++ U) x hx he' (by rw [List.length_append]; omega)
    rw [hls] at h
    exact h
  obtain ⟨C, hC⟩ : ∃ C, Hid (sfC tn' te' s (T ++ U) = C) := ⟨_, Lib.hid rfl⟩
  obtain ⟨XL, hXL, NX, hNX⟩ : ∃ XL : List Trm, Hid (tdL C (nzT (fI (T ++ U)).2) = XL) ∧ ∃ NX : Nat, Hid (XL.length = NX) := ⟨_, Lib.hid rfl, _, Lib.hid rfl⟩
  rw [hr.out]
  rw [hC.out, hXL.out] at HSF ⊢
  clear h1 h2 he he' hls
  obtain ⟨N, hN⟩ : ∃ N : Nat, Hid (T.length = N) := ⟨_, Lib.hid rfl⟩
  obtain ⟨M, hM⟩ : ∃ M : Nat, Hid (U.length = M) := ⟨_, Lib.hid rfl⟩
  rw [hN.out, hM.out]
  rw [hN.out] at HT hlT
  rw [hM.out] at HU hlU
  go_enter Tryz.func18, Tryz.ntmps18
  go_wp2_with fail
  refine Calls.mono (ValidSum_any _ tn' te' s T _ (HT.out.below belA) HE.out) ?_
  rw [H1.out]
  rintro e0 w1 ⟨rfl, hb⟩
  have k0 : w1.heap[w.heap.size]? = some (.cells #[.int .i64 tn', .int .u32 te', .int .i64 s, .slice A N cap] 34 (0, 0)) := bblk hb (by simp <;> omega) blkA
  have k1 : w1.heap[w.heap.size + 1]? = some (.cells #[.int .i64 tn', .int .u32 te', .int .i64 s, .slice A' M cap'] 34 (0, 0)) := bblk hb (by simp <;> omega) blkA
  have k2 : w1.heap[w.heap.size + 1 + 1]? = some (.cells #[.int .i64 0, .int .u32 0, .int .i64 0, .slice none 0 0] 34 (0, 0)) := bblk hb (by simp <;> omega) blkA
  have HB1 := Lib.hid (show Below w.heap.size w w1 from Below.trans belA (hb.mono (by simp <;> omega)))
  obtain ⟨d0, d1, d2, d3⟩ := blkc4 k1
  have K0 := Lib.hid k0
  have K1 := Lib.hid k1
  have K2 := Lib.hid k2
  have y1 := blklt k1
  clear hb k0 k1 k2
  go_wp2_with fail
  refine Calls.mono (ValidSum_any _ tn' te' s U _ (HU.out.below HB1.out) HE'.out) ?_
  rw [H2.out]
  rintro e0 w2 ⟨rfl, hb⟩
  have k0 := bblk hb (blklt K0.out) K0.out
  have k1 := bblk hb (blklt K1.out) K1.out
  have k2 := bblk hb (blklt K2.out) K2.out
  have HB2 := Lib.hid (show Below w.heap.size w w2 from HB1.out.trans (hb.mono HB1.out.size))
  clear d0 d1 d2 d3 y1
  obtain ⟨c0, c1, c2, c3⟩ := blkc4 k0
  obtain ⟨d0, d1, d2, d3⟩ := blkc4 k1
  have y0 := blklt k0
  have y1 := blklt k1
  have y2 := blklt k2
  have K2 := Lib.hid k2
  have hz2 := HB2.out.size
  have HCC := Lib.hid (concatTerm_any (w2.alloc (.cells #[.slice A N cap, .slice A' M cap'] 32)).drew w2.heap.size T U (.slice A N cap) (.slice A' M cap') (blkdrew (blknew w2 _)) (HT.out.below (bdrew1 (HB2.out.alloc hz2 _))) (HU.out.below (bdrew1 (HB2.out.alloc hz2 _))) (by rw [hN.out]; exact hlT) (by rw [hM.out]; exact hlU))
  clear hb k0 k1 k2 K0 K1 HB1
  go_wp2_with fail
  (refine wp_region_held_drew (S := (fun w' => w'.cell? ⟨w.heap.size, 0, none⟩ = some (.int .i64 tn') ∧ w'.cell? ⟨w.heap.size, 1, none⟩ = some (.int .u32 te') ∧ w'.cell? ⟨w.heap.size, 2, none⟩ = some (.int .i64 s) ∧ w'.cell? ⟨w.heap.size, 3, none⟩ = some (.slice A N cap) ∧ w'.cell? ⟨w.heap.size + 1, 3, none⟩ = some (.slice A' M cap'))) (by kernel_rfl) ?_ (fun hHeld => ?_); (focus (first | exact hS | (simp [*, go_sem]; done) | fail)); refine rt 0 (some 30) (v := ?_) rfl rfl ?_ ?_; rotate_left; (focus (intro w' hSw; (try dsimp only at hSw); go_simp; (try with_reducible rfl))); (try simp only [Act.put, nA, nB, nC]); refine rt 1 (some 31) (v := ?_) rfl rfl ?_ ?_; rotate_left; (focus (intro w' hSw; (try dsimp only at hSw); go_simp; (try with_reducible rfl))); (try simp only [Act.put, nA, nB, nC]); refine rt 2 (some 32) (v := ?_) rfl rfl ?_ ?_; rotate_left; (focus (intro w' hSw; (try dsimp only at hSw); go_simp; (try with_reducible rfl))); (try simp only [Act.put, nA, nB, nC]); refine rt 3 (some 33) (v := ?_) rfl rfl ?_ ?_; rotate_left; (focus (intro w' hSw; (try dsimp only at hSw); go_simp; (try with_reducible rfl))); (try simp only [Act.put, nA, nB, nC]); refine rt 4 (some 34) (v := ?_) rfl rfl ?_ ?_; rotate_left; (focus (intro w' hSw; (try dsimp only at hSw); go_simp; (try with_reducible rfl))); (try simp only [Act.put, nA, nB, nC]); refine rt 5 (some 35) (v := ?_) rfl rfl ?_ ?_; rotate_left; (focus (intro w' hSw; (try dsimp only at hSw); go_simp; (try with_reducible rfl))); (try simp only [Act.put, nA, nB, nC]); refine rt 6 (some 36) (v := ?_) rfl rfl ?_ ?_; rotate_left; (focus (intro w' hSw; (try dsimp only at hSw); go_simp; (try with_reducible rfl))); (try simp only [Act.put, nA, nB, nC]); refine rt 7 (some 37) (v := ?_) rfl rfl ?_ ?_; rotate_left; (focus (intro w' hSw; (try dsimp only at hSw); go_simp; (try with_reducible rfl))); (try simp only [Act.put, nA, nB, nC]); refine wpAnyH_ready (rs := [8]) (by kernel_rfl) (by simp) ?_; refine AllReadyH.cons rfl (fun K hK => ?_) AllReadyH.nil; (try go_simp); refine hK.out _ _ ?_ (fun hHeld => ?_); (focus (first | exact hS | (simp [*, go_sem]; done) | fail)); clear hK K; (try simp only [Act.put, nA, nB, nC]); refine wpAnyH_ready (rs := [9]) (by kernel_rfl) (by simp) ?_; refine AllReadyH.cons rfl (fun K hK => ?_) AllReadyH.nil; go_simp; (go_at_call 51; refine Calls.mono HCC.out ?_; rintro e0 w3 ⟨v3, rfl, hL3, hb⟩; have hS := And.intro (bkeep hb hHeld.1) (And.intro (bkeep hb hHeld.2.1) (And.intro (bkeep hb hHeld.2.2.1) (And.intro (bkeep hb hHeld.2.2.2.1) (bkeep hb hHeld.2.2.2.2)))); have HB3 := Lib.hid ((bdrew1 (HB2.out.alloc hz2 _)).trans (hb.mono (by simp; omega))); have K23 := Lib.hid (bblk hb (by simp; omega) (blkdrew (blkal K2.out _))); have HL3 := Lib.hid hL3; clear hL3 hb); go_wp2_with fail; refine hK.out _ _ ?_ (fun hHeld => ?_); (focus (first | exact hS | (simp [*, go_sem]; done) | fail)); clear hK K; (try simp only [Act.put, nA, nB, nC]); refine wpAnyH_ready (rs := [10]) (by kernel_rfl) (by simp) ?_; refine AllReadyH.cons rfl (fun K hK => ?_) AllReadyH.nil; go_simp; (go_at_call 50; refine Calls.mono (HSF.out _ _ HL3.out) ?_; rintro e0 w4 ⟨A4, cap4, F4, rfl, hO4, hb⟩; rw [hNX.out] at hO4 ⊢; have hS := And.intro (bkeep hb hHeld.1) (And.intro (bkeep hb hHeld.2.1) (And.intro (bkeep hb hHeld.2.2.1) (And.intro (bkeep hb hHeld.2.2.2.1) (bkeep hb hHeld.2.2.2.2)))); have HB4 := Lib.hid (HB3.out.trans (hb.mono HB3.out.size)); have k24 := bblk hb (blklt K23.out) K23.out; have HO4 := Lib.hid hO4; have hz34 : w.heap.size ≤ w3.heap.size := HB3.out.size; have hzz4 := blklt K23.out; obtain ⟨⟨g0, g1, g2, g3⟩, f0, f1, f2, f3⟩ := blk4 k24; have y24 := blklt k24; clear hO4 hb k24); go_wp2_with fail; refine hK.out _ _ ?_ (fun hHeld => ?_); (focus (first | exact hS | (simp [*, go_sem]; done) | fail)); clear hK K; (try simp only [Act.put, nA, nB, nC]); refine rt 11 (some 41) (v := ?_) rfl rfl ?_ ?_; rotate_left; (focus (intro w' hSw; (try dsimp only at hSw); go_simp; (try with_reducible rfl))); (try simp only [Act.put, nA, nB, nC]); refine rt 12 (some 42) (v := ?_) rfl rfl ?_ ?_; rotate_left; (focus (intro w' hSw; (try dsimp only at hSw); go_simp; (try with_reducible rfl))); (try simp only [Act.put, nA, nB, nC]); refine wpAnyH_ready (rs := [13]) (by kernel_rfl) (by simp) ?_; refine AllReadyH.cons rfl (fun K hK => ?_) AllReadyH.nil; (try go_simp); refine hK.out _ _ ?_ (fun hHeld => ?_); (focus (first | exact hS | (simp [*, go_sem]; done) | fail)); clear hK K; (try simp only [Act.put, nA, nB, nC]); refine rt 14 (some 5) (v := ?_) rfl rfl ?_ ?_; rotate_left; (focus (intro w' hSw; (try dsimp only at hSw); go_simp; (try with_reducible rfl))); (try simp only [Act.put, nA, nB, nC]); refine wpAnyH_done (by kernel_rfl) ?_ _)
  go_wp2_with fail
  refine bodyPost_ret (v := .tuple #[.agg #[.int .i64 (tdT C (tn', te')).1, .int .u32 (tdT C (tn', te')).2, .int .i64 (tdS C s), .slice A4 NX cap4], .int .i64 C]) (by simp [results, Tryz.results18, go_sem, *]) rfl ?_
  refine ⟨A4, cap4, F4, by rw [hNX.out], ?_, ?_⟩
  · rw [hNX.out]
    refine HO4.out.move (by omega) fun q h1 _ => ?_
    have hne : q ≠ w.heap.size + 1 + 1 := by omega
    exact (Below.heap_setCell _ ⟨w.heap.size + 1 + 1, 3, none⟩ _ q hne).trans ((Below.heap_setCell _ ⟨w.heap.size + 1 + 1, 2, none⟩ _ q hne).trans ((Below.heap_setCell _ ⟨w.heap.size + 1 + 1, 1, none⟩ _ q hne).trans (Below.heap_setCell _ ⟨w.heap.size + 1 + 1, 0, none⟩ _ q hne)))
  · have hb4 := HB4.out
    exact belA
end Go.Proofs.YtpcjinbbgnmchaaGreat

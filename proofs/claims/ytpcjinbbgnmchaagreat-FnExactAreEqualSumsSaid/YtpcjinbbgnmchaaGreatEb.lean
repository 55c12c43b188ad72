/- Two sums are compared behind a raise: spec.AreEqualSums. -/
import Derived.Test.YtpcjinbbgnmchaaGreatEa
import Derived.Test.YtpcjinbbgnmchaaGreatRc
namespace Go.Proofs.YtpcjinbbgnmchaaGreat
open Go.ChangeShapes Go.WideShapes Go.RowKit
set_option linter.unusedVariables false
set_option linter.unusedSimpArgs false
attribute [local irreducible] Calls
theorem eqL_comm {α : Type} [DecidableEq α] (xs ys : List α) : eqL xs ys = eqL ys xs := by
  unfold eqL
  rw [decide_eq_decide]
  exact eq_comm
theorem raise_same {w : World} {ba : Nat} {tn te s : Int} {T : List Trm} {v : Value} {n : Int} (hba : w.heap[ba]? = some (.cells #[.int .i64 tn, .int .u32 te, .int .i64 s, v] 34 (0, 0))) (hT : Lst shTerm w T v) (he : 0 ≤ te ∧ te ≤ 4294967295) (h1 : sumOk tn te s T = true) (hn : s ≤ n) (hn5 : n ≤ 5) :
    Calls Tryz.prog 32 #[.pointer (some ⟨ba, 0, none⟩), .int .i64 n] w (SumRet w.heap.size w (rsC tn te s T n) (tdT (rsC tn te s T n) (tn, te)) (tdS (rsC tn te s T n) n) (rsL tn te s T n)) := by
  obtain ⟨k, hk, hk3, hks, hs5⟩ := rs_sizes h1
  subst hk
  obtain ⟨m, rfl⟩ : ∃ m : Nat, n = m := ⟨n.toNat, by omega⟩
  have h2 : inB m s 5 = true := by simp [inB]; omega
  have hr : rsC k te s T m = ovC k te m (rsD T) (rsZ T) := by simp only [rsC, h1, h2, if_true, Int.toNat_natCast]
  have hrl : rsL k te s T m = tdL (ovC k te m (rsD T) (rsZ T)) (nzT (ovX (flagsF k te m []) (rsD T))) := by unfold rsL; rw [hr, Int.toNat_natCast, Int.toNat_natCast]
  rw [hr, hrl]
  exact l05Raise_any w ba k m te s T v hba hT he h1 hn (by omega) (by omega) hk3
set_option maxHeartbeats 4000000 in
theorem sAreEqualSums_any (w : World) (tn te s : Int) (T : List Trm) (v : Value) (tn' te' s' : Int) (U : List Trm) (u : Value) (hT : Lst shTerm w T v) (hU : Lst shTerm w U u) (he : 0 ≤ te ∧ te ≤ 4294967295) (he' : 0 ≤ te' ∧ te' ≤ 4294967295) :
    Calls Tryz.prog 9 #[.agg #[.int .i64 tn, .int .u32 te, .int .i64 s, v], .agg #[.int .i64 tn', .int .u32 te', .int .i64 s', u]] w fun e w' => e = .returned (.tuple #[.bool (aeB tn te s T tn' te' s' U), .int .i64 (aeC tn te s T tn' te' s' U)]) ∧ Below w.heap.size w w' := by
  have HT := Lib.hid hT
  have HU := Lib.hid hU
  have HE := Lib.hid he
  have HE' := Lib.hid he'
  obtain ⟨A, cap, rfl, _, _⟩ := formTerm hT
  obtain ⟨A', cap', rfl, _, _⟩ := formTerm hU
  clear hT hU
  cases h1 : sumOk tn te s T
  · have hr := Lib.hid (ae_no (tn := tn) (te := te) (s := s) (T := T) (tn' := tn') (te' := te') (s' := s') (U := U) (c := 1) (by simp [aeC, h1]) (by decide))
    have H1 := Lib.hid h1
    clear h1 he he'
    go_enter Tryz.func9, Tryz.ntmps9
    go_wp2_with (first | (go_at_call 30; refine Calls.mono (l05Ok_any _ w.heap.size tn te s T _ blkA (HT.out.below belA) HE.out) ?_; rw [H1.out]; rintro e w1 ⟨rfl, hb⟩; obtain ⟨X, m, rfl⟩ := plsOf hb; clear hb))
    exact bodyPost_ret (v := .tuple #[.bool false, .int .i64 1]) (by simp [results, Tryz.results9, go_sem]) rfl ⟨by rw [hr.out.1, hr.out.2], belA⟩
  have H1 := Lib.hid h1
  cases h2 : sumOk tn' te' s' U
  · have hr := Lib.hid (ae_no (tn := tn) (te := te) (s := s) (T := T) (tn' := tn') (te' := te') (s' := s') (U := U) (c := 1) (by simp [aeC, h2]) (by decide))
    have H2 := Lib.hid h2
    clear h1 h2 he he'
    go_enter Tryz.func9, Tryz.ntmps9
    go_wp2_with (first | (go_at_call 30; refine Calls.mono (l05Ok_any _ w.heap.size tn te s T _ blkA (HT.out.below belA) HE.out) ?_; rw [H1.out]; rintro e w1 ⟨rfl, hb⟩; obtain ⟨X, m, rfl⟩ := plsOf hb; clear hb) | (go_at_call 30; refine Calls.mono (l05Ok_any _ (w.heap.size + 1) tn' te' s' U _ blkA (HU.out.below belA) HE'.out) ?_; rw [H2.out]; rintro e w1 ⟨rfl, hb⟩; obtain ⟨X, m, rfl⟩ := plsOf hb; clear hb))
    exact bodyPost_ret (v := .tuple #[.bool false, .int .i64 1]) (by simp [results, Tryz.results9, go_sem]) rfl ⟨by rw [hr.out.1, hr.out.2], belA⟩
  have H2 := Lib.hid h2
  cases h3 : eq2 tn te tn' te'
  · have hr := Lib.hid (ae_no (tn := tn) (te := te) (s := s) (T := T) (tn' := tn') (te' := te') (s' := s') (U := U) (c := 4) (by simp [aeC, h1, h2, h3]) (by decide))
    clear h1 h2 he he'
    go_enter Tryz.func9, Tryz.ntmps9
    go_wp2_with (first | (go_at_call 30; refine Calls.mono (l05Ok_any _ w.heap.size tn te s T _ blkA (HT.out.below belA) HE.out) ?_; rw [H1.out]; rintro e w1 ⟨rfl, hb⟩; obtain ⟨X, m, rfl⟩ := plsOf hb; clear hb) | (go_at_call 30; refine Calls.mono (l05Ok_any _ (w.heap.size + 1) tn' te' s' U _ blkA (HU.out.below belA) HE'.out) ?_; rw [H2.out]; rintro e w1 ⟨rfl, hb⟩; obtain ⟨X, m, rfl⟩ := plsOf hb; clear hb))
    exact bodyPost_ret (v := .tuple #[.bool false, .int .i64 4]) (by simp [results, Tryz.results9, go_sem]) rfl ⟨by rw [hr.out.1, hr.out.2], belA⟩
  have h3' : tn' = tn ∧ te' = te := by simp [eq2] at h3; exact ⟨h3.1.symm, h3.2.symm⟩
  obtain ⟨rfl, rfl⟩ := h3'
  have hlT : T.length ≤ 64 := (sumOk_iff.1 h1).2.2.1
  have hlU : U.length ≤ 64 := (sumOk_iff.1 h2).2.2.1
  have hs5 : s ≤ 5 := by
    obtain ⟨_, _, _, _, h⟩ := rs_sizes h1
    exact h
  have hs5' : s' ≤ 5 := by
    obtain ⟨_, _, _, _, h⟩ := rs_sizes h2
    exact h
  have hac : aeC tn' te' s T tn' te' s' U = (if s < s' then rsC tn' te' s T s' else if s' < s then rsC tn' te' s' U s else 0) := by
    unfold aeC
    rw [h1, h2, h3, if_pos (show (true && true) = true from rfl), if_pos rfl]
  by_cases hlt : s < s'
  · have hac1 : aeC tn' te' s T tn' te' s' U = rsC tn' te' s T s' := by rw [hac, if_pos hlt]
    have hse : (s == s') = false := by simp; omega
    by_cases hc : rsC tn' te' s T s' = 0
    · have hr : Hid (aeC tn' te' s T tn' te' s' U = 0 ∧ aeB tn' te' s T tn' te' s' U = eqL (rsL tn' te' s T s') U) := Lib.hid ⟨by rw [hac1, hc], by unfold aeB; rw [hac1, if_pos hc, if_pos hlt]⟩
      have hll := rs_len hc
      have HRS : Hid (∀ W ab, Below w.heap.size w W → W.heap[ab]? = some (.cells #[.int .i64 tn', .int .u32 te', .int .i64 s, .slice A T.length cap] 34 (0, 0)) → Calls Tryz.prog 32 #[.pointer (some ⟨ab, 0, none⟩), .int .i64 s'] W (Raised 0 tn' te' s' (rsL tn' te' s T s') W)) := Lib.hid fun W ab hW hab => Calls.mono (raise_same hab (HT.out.below hW) he h1 (Int.le_of_lt hlt) hs5') fun e W' h => by
        rw [hc] at h
        exact h
      obtain ⟨XL, hXL⟩ : ∃ XL, rsL tn' te' s T s' = XL := ⟨_, rfl⟩
      rw [hXL] at HRS hr hll
      obtain ⟨NX, hNX⟩ : ∃ NX, Hid (XL.length = NX) := ⟨_, Lib.hid rfl⟩
      rw [hNX.out] at hll
      clear h1 h2 he he' hac hac1 hc hXL
      go_enter Tryz.func9, Tryz.ntmps9
      go_wp2_with (first | (go_at_call 30; refine Calls.mono (l05Ok_any _ w.heap.size tn' te' s T _ blkA (HT.out.below belA) HE.out) ?_; rw [H1.out]; rintro e w1 ⟨rfl, hb⟩; obtain ⟨X, m, rfl⟩ := plsOf hb; clear hb) | (go_at_call 30; refine Calls.mono (l05Ok_any _ (w.heap.size + 1) tn' te' s' U _ blkA (HU.out.below belA) HE'.out) ?_; rw [H2.out]; rintro e w1 ⟨rfl, hb⟩; obtain ⟨X, m, rfl⟩ := plsOf hb; clear hb))
      refine Calls.mono (HRS.out _ w.heap.size belA blkA) ?_
      rintro e0 w5 ⟨A5, cap5, F5, rfl, hO5, hb5⟩
      have k1 : w5.heap[w.heap.size + 1]? = some (.cells #[.int .i64 tn', .int .u32 te', .int .i64 s', .slice A' U.length cap'] 34 (0, 0)) := bblk hb5 (by simp <;> omega) blkA
      have hbb : Below w.heap.size w w5 := Below.trans belA (hb5.mono (by simp <;> omega))
      rw [hNX.out] at hO5 ⊢
      have HO5 := Lib.hid hO5
      obtain ⟨d0, d1, d2, d3⟩ := blkc4 k1
      have y1 := blklt k1
      have HSM : Hid (∀ W i, Below w5.heap.size w5 W → W.heap[i]? = some (.cells #[.int .i64 tn', .int .u32 te', .int .i64 s', .slice A5 NX cap5] 34 (0, 0)) → Calls Tryz.prog 31 #[.pointer (some ⟨i, 0, none⟩), .pointer (some ⟨w.heap.size + 1, 0, none⟩)] W fun e W' => e = .returned (.bool (eqL XL U)) ∧ Below W.heap.size W W') := Lib.hid fun W i hW hi => by
        obtain ⟨c0, c1, c2, c3⟩ := blkc4 hi
        have h2 := l05Same_any W i 0 (w.heap.size + 1) 0 tn' te' s' tn' te' s' XL U (.slice A5 NX cap5) _ (HO5.out.lst.below hW) ((HU.out.below hbb).below hW) (by rw [hNX.out]; omega) c0 c1 c2 c3 (bkeep hW d0) (bkeep hW d1) (bkeep hW d2) (bkeep hW d3)
        rw [same_eq] at h2
        exact h2
      clear hO5 hb5 k1
      go_wp2_with fail
      refine Calls.mono (HSM.out _ w5.heap.size belA blkA) ?_
      rintro e0 w6 ⟨rfl, hb⟩
      have hb6 : Below w.heap.size w w6 := Below.trans belA (hb.mono (by have := hbb.size; simp <;> omega))
      clear hb
      go_wp2_with fail
      exact bodyPost_ret (v := .tuple #[.bool (eqL XL U), .int .i64 0]) (by simp [results, Tryz.results9, go_sem]) rfl ⟨by rw [hr.out.1, hr.out.2], belA⟩
    · have hr := Lib.hid (ae_no hac1 hc)
      have HRS : Hid (∀ W ab, Below w.heap.size w W → W.heap[ab]? = some (.cells #[.int .i64 tn', .int .u32 te', .int .i64 s, .slice A T.length cap] 34 (0, 0)) → Calls Tryz.prog 32 #[.pointer (some ⟨ab, 0, none⟩), .int .i64 s'] W (Raised (rsC tn' te' s T s') 0 0 0 [] W)) := Lib.hid fun W ab hW hab => Calls.mono (raise_same hab (HT.out.below hW) he h1 (Int.le_of_lt hlt) hs5') fun e W' h => raised_c (n := s') h hc
      obtain ⟨C, hC⟩ : ∃ C, rsC tn' te' s T s' = C := ⟨_, rfl⟩
      rw [hC] at HRS hr hc
      have hcb : (C == 0) = false := by simpa using hc
      clear h1 h2 he he' hac hac1 hC
      go_enter Tryz.func9, Tryz.ntmps9
      go_wp2_with (first | (go_at_call 30; refine Calls.mono (l05Ok_any _ w.heap.size tn' te' s T _ blkA (HT.out.below belA) HE.out) ?_; rw [H1.out]; rintro e w1 ⟨rfl, hb⟩; obtain ⟨X, m, rfl⟩ := plsOf hb; clear hb) | (go_at_call 30; refine Calls.mono (l05Ok_any _ (w.heap.size + 1) tn' te' s' U _ blkA (HU.out.below belA) HE'.out) ?_; rw [H2.out]; rintro e w1 ⟨rfl, hb⟩; obtain ⟨X, m, rfl⟩ := plsOf hb; clear hb))
      refine Calls.mono (HRS.out _ w.heap.size belA blkA) ?_
      rintro e0 w5 ⟨A5, cap5, F5, rfl, hO5, hb5⟩
      have hbb : Below w.heap.size w w5 := Below.trans belA (hb5.mono (by simp <;> omega))
      clear hO5 hb5
      go_wp2_with fail
      exact bodyPost_ret (v := .tuple #[.bool false, .int .i64 C]) (by simp [results, Tryz.results9, go_sem]) rfl ⟨by rw [hr.out.1, hr.out.2], belA⟩
  by_cases hgt : s' < s
  · have hac1 : aeC tn' te' s T tn' te' s' U = rsC tn' te' s' U s := by rw [hac, if_neg hlt, if_pos hgt]
    have hse : (s == s') = false := by simp; omega
    by_cases hc : rsC tn' te' s' U s = 0
    · have hr : Hid (aeC tn' te' s T tn' te' s' U = 0 ∧ aeB tn' te' s T tn' te' s' U = eqL (rsL tn' te' s' U s) T) := Lib.hid ⟨by rw [hac1, hc], by unfold aeB; rw [hac1, if_pos hc, if_neg hlt, if_pos hgt, eqL_comm]⟩
      have hll := rs_len hc
      have HRS : Hid (∀ W ab, Below w.heap.size w W → W.heap[ab]? = some (.cells #[.int .i64 tn', .int .u32 te', .int .i64 s', .slice A' U.length cap'] 34 (0, 0)) → Calls Tryz.prog 32 #[.pointer (some ⟨ab, 0, none⟩), .int .i64 s] W (Raised 0 tn' te' s (rsL tn' te' s' U s) W)) := Lib.hid fun W ab hW hab => Calls.mono (raise_same hab (HU.out.below hW) he h2 (Int.le_of_lt hgt) hs5) fun e W' h => by
        rw [hc] at h
        exact h
      obtain ⟨XL, hXL⟩ : ∃ XL, rsL tn' te' s' U s = XL := ⟨_, rfl⟩
      rw [hXL] at HRS hr hll
      obtain ⟨NX, hNX⟩ : ∃ NX, Hid (XL.length = NX) := ⟨_, Lib.hid rfl⟩
      rw [hNX.out] at hll
      clear h1 h2 he he' hac hac1 hc hXL
      go_enter Tryz.func9, Tryz.ntmps9
      go_wp2_with (first | (go_at_call 30; refine Calls.mono (l05Ok_any _ w.heap.size tn' te' s T _ blkA (HT.out.below belA) HE.out) ?_; rw [H1.out]; rintro e w1 ⟨rfl, hb⟩; obtain ⟨X, m, rfl⟩ := plsOf hb; clear hb) | (go_at_call 30; refine Calls.mono (l05Ok_any _ (w.heap.size + 1) tn' te' s' U _ blkA (HU.out.below belA) HE'.out) ?_; rw [H2.out]; rintro e w1 ⟨rfl, hb⟩; obtain ⟨X, m, rfl⟩ := plsOf hb; clear hb))
      refine Calls.mono (HRS.out _ (w.heap.size + 1) belA blkA) ?_
      rintro e0 w5 ⟨A5, cap5, F5, rfl, hO5, hb5⟩
      have k1 : w5.heap[w.heap.size]? = some (.cells #[.int .i64 tn', .int .u32 te', .int .i64 s, .slice A T.length cap] 34 (0, 0)) := bblk hb5 (by simp <;> omega) blkA
      have hbb : Below w.heap.size w w5 := Below.trans belA (hb5.mono (by simp <;> omega))
      rw [hNX.out] at hO5 ⊢
      have HO5 := Lib.hid hO5
      obtain ⟨d0, d1, d2, d3⟩ := blkc4 k1
      have y1 := blklt k1
      have HSM : Hid (∀ W i, Below w5.heap.size w5 W → W.heap[i]? = some (.cells #[.int .i64 tn', .int .u32 te', .int .i64 s, .slice A5 NX cap5] 34 (0, 0)) → Calls Tryz.prog 31 #[.pointer (some ⟨i, 0, none⟩), .pointer (some ⟨w.heap.size, 0, none⟩)] W fun e W' => e = .returned (.bool (eqL XL T)) ∧ Below W.heap.size W W') := Lib.hid fun W i hW hi => by
        obtain ⟨c0, c1, c2, c3⟩ := blkc4 hi
        have h2 := l05Same_any W i 0 w.heap.size 0 tn' te' s tn' te' s XL T (.slice A5 NX cap5) _ (HO5.out.lst.below hW) ((HT.out.below hbb).below hW) (by rw [hNX.out]; omega) c0 c1 c2 c3 (bkeep hW d0) (bkeep hW d1) (bkeep hW d2) (bkeep hW d3)
        rw [same_eq] at h2
        exact h2
      clear hO5 hb5 k1
      go_wp2_with fail
      refine Calls.mono (HSM.out _ w5.heap.size belA blkA) ?_
      rintro e0 w6 ⟨rfl, hb⟩
      have hb6 : Below w.heap.size w w6 := Below.trans belA (hb.mono (by have := hbb.size; simp <;> omega))
      clear hb
      go_wp2_with fail
      exact bodyPost_ret (v := .tuple #[.bool (eqL XL T), .int .i64 0]) (by simp [results, Tryz.results9, go_sem]) rfl ⟨by rw [hr.out.1, hr.out.2], belA⟩
    · have hr := Lib.hid (ae_no hac1 hc)
      have HRS : Hid (∀ W ab, Below w.heap.size w W → W.heap[ab]? = some (.cells #[.int .i64 tn', .int .u32 te', .int .i64 s', .slice A' U.length cap'] 34 (0, 0)) → Calls Tryz.prog 32 #[.pointer (some ⟨ab, 0, none⟩), .int .i64 s] W (Raised (rsC tn' te' s' U s) 0 0 0 [] W)) := Lib.hid fun W ab hW hab => Calls.mono (raise_same hab (HU.out.below hW) he h2 (Int.le_of_lt hgt) hs5) fun e W' h => raised_c (n := s) h hc
      obtain ⟨C, hC⟩ : ∃ C, rsC tn' te' s' U s = C := ⟨_, rfl⟩
      rw [hC] at HRS hr hc
      have hcb : (C == 0) = false := by simpa using hc
      clear h1 h2 he he' hac hac1 hC
      go_enter Tryz.func9, Tryz.ntmps9
      go_wp2_with (first | (go_at_call 30; refine Calls.mono (l05Ok_any _ w.heap.size tn' te' s T _ blkA (HT.out.below belA) HE.out) ?_; rw [H1.out]; rintro e w1 ⟨rfl, hb⟩; obtain ⟨X, m, rfl⟩ := plsOf hb; clear hb) | (go_at_call 30; refine Calls.mono (l05Ok_any _ (w.heap.size + 1) tn' te' s' U _ blkA (HU.out.below belA) HE'.out) ?_; rw [H2.out]; rintro e w1 ⟨rfl, hb⟩; obtain ⟨X, m, rfl⟩ := plsOf hb; clear hb))
      refine Calls.mono (HRS.out _ (w.heap.size + 1) belA blkA) ?_
      rintro e0 w5 ⟨A5, cap5, F5, rfl, hO5, hb5⟩
      have hbb : Below w.heap.size w w5 := Below.trans belA (hb5.mono (by simp <;> omega))
      clear hO5 hb5
      go_wp2_with fail
      exact bodyPost_ret (v := .tuple #[.bool false, .int .i64 C]) (by simp [results, Tryz.results9, go_sem]) rfl ⟨by rw [hr.out.1, hr.out.2], belA⟩
  have e : s = s' := by omega
  subst e
  have hr : Hid (aeC tn' te' s T tn' te' s U = 0 ∧ aeB tn' te' s T tn' te' s U = eqL T U) := Lib.hid (by
    have h0 : aeC tn' te' s T tn' te' s U = 0 := by rw [hac, if_neg hlt, if_neg hlt]
    exact ⟨h0, by unfold aeB; rw [h0, if_pos rfl, if_neg hlt, if_neg hlt]⟩)
  have HSM : Hid (∀ W, Below w.heap.size w W → W.heap[w.heap.size]? = some (.cells #[.int .i64 tn', .int .u32 te', .int .i64 s, .slice A T.length cap] 34 (0, 0)) → W.heap[w.heap.size + 1]? = some (.cells #[.int .i64 tn', .int .u32 te', .int .i64 s, .slice A' U.length cap'] 34 (0, 0)) → Calls Tryz.prog 31 #[.pointer (some ⟨w.heap.size, 0, none⟩), .pointer (some ⟨w.heap.size + 1, 0, none⟩)] W fun e W' => e = .returned (.bool (eqL T U)) ∧ Below W.heap.size W W') := Lib.hid fun W hW hi hj => by
    obtain ⟨c0, c1, c2, c3⟩ := blkc4 hi
    obtain ⟨d0, d1, d2, d3⟩ := blkc4 hj
    have h2 := l05Same_any W w.heap.size 0 (w.heap.size + 1) 0 tn' te' s tn' te' s T U _ _ (HT.out.below hW) (HU.out.below hW) (by omega) c0 c1 c2 c3 d0 d1 d2 d3
    rw [same_eq] at h2
    exact h2
  clear h1 h2 he he' hac
  go_enter Tryz.func9, Tryz.ntmps9
  go_wp2_with (first | (go_at_call 30; refine Calls.mono (l05Ok_any _ w.heap.size tn' te' s T _ blkA (HT.out.below belA) HE.out) ?_; rw [H1.out]; rintro e w1 ⟨rfl, hb⟩; obtain ⟨X, m, rfl⟩ := plsOf hb; clear hb) | (go_at_call 30; refine Calls.mono (l05Ok_any _ (w.heap.size + 1) tn' te' s U _ blkA (HU.out.below belA) HE'.out) ?_; rw [H2.out]; rintro e w1 ⟨rfl, hb⟩; obtain ⟨X, m, rfl⟩ := plsOf hb; clear hb) | (go_at_call 31; refine Calls.mono (HSM.out _ belA blkA blkA) ?_; rintro e w1 ⟨rfl, hb⟩; obtain ⟨X, m, rfl⟩ := plsOf hb; clear hb))
  exact bodyPost_ret (v := .tuple #[.bool (eqL T U), .int .i64 0]) (by simp [results, Tryz.results9, go_sem]) rfl ⟨by rw [hr.out.1, hr.out.2], belA⟩
end Go.Proofs.YtpcjinbbgnmchaaGreat

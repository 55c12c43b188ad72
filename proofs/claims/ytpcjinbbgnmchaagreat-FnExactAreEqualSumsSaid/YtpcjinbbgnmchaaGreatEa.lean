/- Two sums are compared behind a raise: impl.AreEqualSums. -/
import Derived.Test.YtpcjinbbgnmchaaGreatRa
import Derived.Test.YtpcjinbbgnmchaaGreatSame
namespace Go.Proofs.YtpcjinbbgnmchaaGreat
open Go.ChangeShapes Go.WideShapes Go.RowKit
set_option linter.unusedVariables false
set_option linter.unusedSimpArgs false
attribute [local irreducible] Calls
/-- The code, and whether they are equal. -/
def aeC (tn te s : Int) (T : List Trm) (tn' te' s' : Int) (U : List Trm) : Int :=
  if sumOk tn te s T && sumOk tn' te' s' U then (if eq2 tn te tn' te' then (if s < s' then rsC tn te s T s' else if s' < s then rsC tn' te' s' U s else 0) else 4) else 1
def aeB (tn te s : Int) (T : List Trm) (tn' te' s' : Int) (U : List Trm) : Bool :=
  if aeC tn te s T tn' te' s' U = 0 then (if s < s' then eqL (rsL tn te s T s') U else if s' < s then eqL T (rsL tn' te' s' U s) else eqL T U) else false
theorem ae_no {tn te s : Int} {T : List Trm} {tn' te' s' : Int} {U : List Trm} {c : Int} (h : aeC tn te s T tn' te' s' U = c) (hc : c ≠ 0) : aeC tn te s T tn' te' s' U = c ∧ aeB tn te s T tn' te' s' U = false := by
  unfold aeB
  rw [h, if_neg hc]
  exact ⟨rfl, rfl⟩
theorem same_eq (tn te s : Int) (xs ys : List Trm) : sameS tn te s xs tn te s ys = eqL xs ys := by simp [sameS, eq2]
/-- A sum is handed out with its parts told. -/
def Raised (c tn te n : Int) (L : List Trm) (W : World) (e : Ending) (W' : World) : Prop := ∃ A cap F, e = .returned (.tuple #[.agg #[.int .i64 tn, .int .u32 te, .int .i64 n, .slice A L.length cap], .int .i64 c]) ∧ Own shTerm W.heap.size W' L (.slice A L.length cap) F ∧ Below W.heap.size W W'
theorem raised_0 {c tn te n : Int} {L : List Trm} {W W' : World} {e : Ending} (h : SumRet W.heap.size W c (tdT c (tn, te)) (tdS c n) (tdL c L) e W') (hc : c = 0) : Raised 0 tn te n L W e W' := by
  subst hc
  exact h
theorem raised_c {c tn te n : Int} {L : List Trm} {W W' : World} {e : Ending} (h : SumRet W.heap.size W c (tdT c (tn, te)) (tdS c n) (tdL c L) e W') (hc : c ≠ 0) : Raised c 0 0 0 [] W e W' := by
  rw [show tdT c (tn, te) = (0, 0) from if_neg hc, show tdS c n = 0 from if_neg hc, show tdL c L = [] from if_neg hc] at h
  exact h
theorem rs_len {tn te s : Int} {T : List Trm} {n : Int} (hc : rsC tn te s T n = 0) : (rsL tn te s T n).length ≤ 64 := by
  unfold rsL
  rw [hc]
  show (nzB _).length ≤ 64
  have hC : ovC tn.toNat te n.toNat (rsD T) (rsZ T) = 0 := by
    unfold rsC at hc
    split at hc
    · split at hc
      · exact hc
      · omega
    · omega
  have h3 : (flagsL tn.toNat te n.toNat []).length ≤ 64 := by
    unfold ovC at hC
    split at hC
    · assumption
    · omega
  refine Nat.le_trans (List.length_filter_le _ _) ?_
  have h4 : (ovB (flagsF tn.toNat te n.toNat []) (rsD T)).length ≤ 64 := by
    rw [ovB_len]
    exact Nat.le_trans (Nat.le_of_eq (List.length_map _)) h3
  exact h4
set_option maxHeartbeats 4000000 in
theorem AreEqualSums_any (w : World) (tn te s : Int) (T : List Trm) (v : Value) (tn' te' s' : Int) (U : List Trm) (u : Value) (hT : Lst shTerm w T v) (hU : Lst shTerm w U u) (he : 0 ≤ te ∧ te ≤ 4294967295) (he' : 0 ≤ te' ∧ te' ≤ 4294967295) :
    Calls Tryz.prog 11 #[.agg #[.int .i64 tn, .int .u32 te, .int .i64 s, v], .agg #[.int .i64 tn', .int .u32 te', .int .i64 s', u]] w fun e w' => e = .returned (.tuple #[.bool (aeB tn te s T tn' te' s' U), .int .i64 (aeC tn te s T tn' te' s' U)]) ∧ Below w.heap.size w w' := by
  have HT := Lib.hid hT
  have HU := Lib.hid hU
  have HE := Lib.hid he
  have HE' := Lib.hid he'
  obtain ⟨A, cap, rfl, _, _⟩ := formTerm hT
  obtain ⟨A', cap', rfl, _, _⟩ := formTerm hU
  clear hT hU
  cases h1 : sumOk tn te s T
  · have hr := Lib.hid (ae_no (tn := tn) (te := te) (s := s) (T := T) (tn' := tn') (te' := te') (s' := s') (U := U) (c := 1) (by simp [aeC, h1]) (by decide))
    have H1 := Lib.hid h1
    clear h1 he he'
    go_enter Tryz.func11, Tryz.ntmps11
    go_wp2_with (first | (go_at_call 35; refine Calls.mono (ValidSum_any _ tn te s T _ (HT.out.below belA) HE.out) ?_; rw [H1.out]; rintro e w1 ⟨rfl, hb⟩; obtain ⟨X, m, rfl⟩ := plsOf hb; clear hb))
    exact bodyPost_ret (v := .tuple #[.bool false, .int .i64 1]) (by simp [results, Tryz.results11, go_sem]) rfl ⟨by rw [hr.out.1, hr.out.2], belA⟩
  have H1 := Lib.hid h1
  cases h2 : sumOk tn' te' s' U
  · have hr := Lib.hid (ae_no (tn := tn) (te := te) (s := s) (T := T) (tn' := tn') (te' := te') (s' := s') (U := U) (c := 1) (by simp [aeC, h2]) (by decide))
    have H2 := Lib.hid h2
    clear h1 h2 he he'
    go_enter Tryz.func11, Tryz.ntmps11
    go_wp2_with (first | (go_at_call 35; refine Calls.mono (ValidSum_any _ tn te s T _ (HT.out.below belA) HE.out) ?_; rw [H1.out]; rintro e w1 ⟨rfl, hb⟩; obtain ⟨X, m, rfl⟩ := plsOf hb; clear hb) | (go_at_call 35; refine Calls.mono (ValidSum_any _ tn' te' s' U _ (HU.out.below belA) HE'.out) ?_; rw [H2.out]; rintro e w1 ⟨rfl, hb⟩; obtain ⟨X, m, rfl⟩ := plsOf hb; clear hb))
    exact bodyPost_ret (v := .tuple #[.bool false, .int .i64 1]) (by simp [results, Tryz.results11, go_sem]) rfl ⟨by rw [hr.out.1, hr.out.2], belA⟩
  have H2 := Lib.hid h2
  cases h3 : eq2 tn te tn' te'
  · have hr := Lib.hid (ae_no (tn := tn) (te := te) (s := s) (T := T) (tn' := tn') (te' := te') (s' := s') (U := U) (c := 4) (by simp [aeC, h1, h2, h3]) (by decide))
    clear h1 h2 he he'
    go_enter Tryz.func11, Tryz.ntmps11
    go_wp2_with (first | (go_at_call 35; refine Calls.mono (ValidSum_any _ tn te s T _ (HT.out.below belA) HE.out) ?_; rw [H1.out]; rintro e w1 ⟨rfl, hb⟩; obtain ⟨X, m, rfl⟩ := plsOf hb; clear hb) | (go_at_call 35; refine Calls.mono (ValidSum_any _ tn' te' s' U _ (HU.out.below belA) HE'.out) ?_; rw [H2.out]; rintro e w1 ⟨rfl, hb⟩; obtain ⟨X, m, rfl⟩ := plsOf hb; clear hb))
    exact bodyPost_ret (v := .tuple #[.bool false, .int .i64 4]) (by simp [results, Tryz.results11, go_sem]) rfl ⟨by rw [hr.out.1, hr.out.2], belA⟩
  have h3' : tn' = tn ∧ te' = te := by simp [eq2] at h3; exact ⟨h3.1.symm, h3.2.symm⟩
  obtain ⟨rfl, rfl⟩ := h3'
  have hlT : T.length ≤ 64 := (sumOk_iff.1 h1).2.2.1
  have hlU : U.length ≤ 64 := (sumOk_iff.1 h2).2.2.1
  have hac : aeC tn' te' s T tn' te' s' U = (if s < s' then rsC tn' te' s T s' else if s' < s then rsC tn' te' s' U s else 0) := by
    unfold aeC
    rw [h1, h2, h3, if_pos (show (true && true) = true from rfl), if_pos rfl]
  by_cases hlt : s < s'
  · have hac1 : aeC tn' te' s T tn' te' s' U = rsC tn' te' s T s' := by rw [hac, if_pos hlt]
    by_cases hc : rsC tn' te' s T s' = 0
    · have hr : Hid (aeC tn' te' s T tn' te' s' U = 0 ∧ aeB tn' te' s T tn' te' s' U = eqL (rsL tn' te' s T s') U) := Lib.hid ⟨by rw [hac1, hc], by unfold aeB; rw [hac1, if_pos hc, if_pos hlt]⟩
      have hll := rs_len hc
      have HRS : Hid (∀ W v, Lst shTerm W T v → Calls Tryz.prog 36 #[.agg #[.int .i64 tn', .int .u32 te', .int .i64 s, v], .int .i64 s'] W (Raised 0 tn' te' s' (rsL tn' te' s T s') W)) := Lib.hid fun W v h => Calls.mono (RaiseSum_any W tn' te' s T v s' h he) fun e W' h => by
        have h2 := raised_0 (n := s') (show SumRet W.heap.size W (rsC tn' te' s T s') (tdT (rsC tn' te' s T s') (tn', te')) (tdS (rsC tn' te' s T s') s') (tdL (rsC tn' te' s T s') (rsL tn' te' s T s')) e W' from by rw [hc] at h ⊢; exact h) hc
        exact h2
      obtain ⟨XL, hXL⟩ : ∃ XL, rsL tn' te' s T s' = XL := ⟨_, rfl⟩
      rw [hXL] at HRS hr hll
      obtain ⟨NX, hNX⟩ : ∃ NX, Hid (XL.length = NX) := ⟨_, Lib.hid rfl⟩
      rw [hNX.out] at hll
      clear h1 h2 he he' hac hac1 hc hXL
      go_enter Tryz.func11, Tryz.ntmps11
      go_wp2_with (first | (go_at_call 35; refine Calls.mono (ValidSum_any _ tn' te' s T _ (HT.out.below belA) HE.out) ?_; rw [H1.out]; rintro e w1 ⟨rfl, hb⟩; obtain ⟨X, m, rfl⟩ := plsOf hb; clear hb) | (go_at_call 35; refine Calls.mono (ValidSum_any _ tn' te' s' U _ (HU.out.below belA) HE'.out) ?_; rw [H2.out]; rintro e w1 ⟨rfl, hb⟩; obtain ⟨X, m, rfl⟩ := plsOf hb; clear hb))
      refine Calls.mono (HRS.out _ _ (HT.out.below belA)) ?_
      rintro e0 w5 ⟨A5, cap5, F5, rfl, hO5, hb5⟩
      have k0 : w5.heap[w.heap.size]? = some (.cells #[.int .i64 tn', .int .u32 te', .int .i64 s, .slice A T.length cap] 34 (0, 0)) := bblk hb5 (by simp <;> omega) blkA
      have k1 : w5.heap[w.heap.size + 1]? = some (.cells #[.int .i64 tn', .int .u32 te', .int .i64 s', .slice A' U.length cap'] 34 (0, 0)) := bblk hb5 (by simp <;> omega) blkA
      have hbb : Below w.heap.size w w5 := Below.trans belA (hb5.mono (by simp <;> omega))
      replace hO5 := hO5.below (B' := w.heap.size + 2) (by simp <;> omega) (Below.refl _ _)
      rw [hNX.out] at hO5 ⊢
      have HO5 := Lib.hid hO5
      obtain ⟨⟨c0, c1, c2, c3⟩, f0, f1, f2, f3⟩ := blk4 k0
      obtain ⟨⟨d0, d1, d2, d3⟩, _⟩ := blk4 k1
      have y0 := blklt k0
      have y1 := blklt k1
      have hne : w.heap.size + 1 ≠ w.heap.size := by omega
      clear hO5 hb5 k0 k1
      go_wp2_with fail
      refine Calls.mono (sameS_any _ tn' te' s' tn' te' s' XL U _ _ (by rw [hNX.out] at *; exact (HO5.out.move (B' := 0) (by omega) fun q h1 _ => by
        have hne : q ≠ w.heap.size := by omega
        exact (Below.heap_setCell _ ⟨w.heap.size, 3, none⟩ _ q hne).trans ((Below.heap_setCell _ ⟨w.heap.size, 2, none⟩ _ q hne).trans ((Below.heap_setCell _ ⟨w.heap.size, 1, none⟩ _ q hne).trans (Below.heap_setCell _ ⟨w.heap.size, 0, none⟩ _ q hne)))).lst) (HU.out.below belA) (by rw [hNX.out]; omega)) ?_
      rw [same_eq]
      rintro e0 w6 ⟨rfl, hb⟩
      have hb6 : Below w.heap.size w w6 := Below.trans belA (hb.mono (by simp <;> omega))
      clear hb
      go_wp2_with fail
      exact bodyPost_ret (v := .tuple #[.bool (eqL XL U), .int .i64 0]) (by simp [results, Tryz.results11, go_sem]) rfl ⟨by rw [hr.out.1, hr.out.2], belA⟩
    · have hr := Lib.hid (ae_no hac1 hc)
      have HRS : Hid (∀ W v, Lst shTerm W T v → Calls Tryz.prog 36 #[.agg #[.int .i64 tn', .int .u32 te', .int .i64 s, v], .int .i64 s'] W (Raised (rsC tn' te' s T s') 0 0 0 [] W)) := Lib.hid fun W v h => Calls.mono (RaiseSum_any W tn' te' s T v s' h he) fun e W' h => raised_c (n := s') h hc
      obtain ⟨C, hC⟩ : ∃ C, rsC tn' te' s T s' = C := ⟨_, rfl⟩
      rw [hC] at HRS hr hc
      have hcb : (C != 0) = true := by simpa using hc
      clear h1 h2 he he' hac hac1 hC
      go_enter Tryz.func11, Tryz.ntmps11
      go_wp2_with (first | (go_at_call 35; refine Calls.mono (ValidSum_any _ tn' te' s T _ (HT.out.below belA) HE.out) ?_; rw [H1.out]; rintro e w1 ⟨rfl, hb⟩; obtain ⟨X, m, rfl⟩ := plsOf hb; clear hb) | (go_at_call 35; refine Calls.mono (ValidSum_any _ tn' te' s' U _ (HU.out.below belA) HE'.out) ?_; rw [H2.out]; rintro e w1 ⟨rfl, hb⟩; obtain ⟨X, m, rfl⟩ := plsOf hb; clear hb))
      refine Calls.mono (HRS.out _ _ (HT.out.below belA)) ?_
      rintro e0 w5 ⟨A5, cap5, F5, rfl, hO5, hb5⟩
      have k0 : w5.heap[w.heap.size]? = some (.cells #[.int .i64 tn', .int .u32 te', .int .i64 s, .slice A T.length cap] 34 (0, 0)) := bblk hb5 (by simp <;> omega) blkA
      have hbb : Below w.heap.size w w5 := Below.trans belA (hb5.mono (by simp <;> omega))
      obtain ⟨⟨c0, c1, c2, c3⟩, f0, f1, f2, f3⟩ := blk4 k0
      have y0 := blklt k0
      clear hO5 hb5 k0
      go_wp2_with fail
      exact bodyPost_ret (v := .tuple #[.bool false, .int .i64 C]) (by simp [results, Tryz.results11, go_sem]) rfl ⟨by rw [hr.out.1, hr.out.2], belA⟩
  by_cases hgt : s' < s
  · have hac1 : aeC tn' te' s T tn' te' s' U = rsC tn' te' s' U s := by rw [hac, if_neg hlt, if_pos hgt]
    by_cases hc : rsC tn' te' s' U s = 0
    · have hr : Hid (aeC tn' te' s T tn' te' s' U = 0 ∧ aeB tn' te' s T tn' te' s' U = eqL T (rsL tn' te' s' U s)) := Lib.hid ⟨by rw [hac1, hc], by unfold aeB; rw [hac1, if_pos hc, if_neg hlt, if_pos hgt]⟩
      have HRS : Hid (∀ W v, Lst shTerm W U v → Calls Tryz.prog 36 #[.agg #[.int .i64 tn', .int .u32 te', .int .i64 s', v], .int .i64 s] W (Raised 0 tn' te' s (rsL tn' te' s' U s) W)) := Lib.hid fun W v h => Calls.mono (RaiseSum_any W tn' te' s' U v s h he) fun e W' h => by
        have h2 := raised_0 (n := s) (show SumRet W.heap.size W (rsC tn' te' s' U s) (tdT (rsC tn' te' s' U s) (tn', te')) (tdS (rsC tn' te' s' U s) s) (tdL (rsC tn' te' s' U s) (rsL tn' te' s' U s)) e W' from by rw [hc] at h ⊢; exact h) hc
        exact h2
      obtain ⟨XL, hXL⟩ : ∃ XL, rsL tn' te' s' U s = XL := ⟨_, rfl⟩
      rw [hXL] at HRS hr
      obtain ⟨NX, hNX⟩ : ∃ NX, Hid (XL.length = NX) := ⟨_, Lib.hid rfl⟩
      clear h1 h2 he he' hac hac1 hc hXL
      go_enter Tryz.func11, Tryz.ntmps11
      go_wp2_with (first | (go_at_call 35; refine Calls.mono (ValidSum_any _ tn' te' s T _ (HT.out.below belA) HE.out) ?_; rw [H1.out]; rintro e w1 ⟨rfl, hb⟩; obtain ⟨X, m, rfl⟩ := plsOf hb; clear hb) | (go_at_call 35; refine Calls.mono (ValidSum_any _ tn' te' s' U _ (HU.out.below belA) HE'.out) ?_; rw [H2.out]; rintro e w1 ⟨rfl, hb⟩; obtain ⟨X, m, rfl⟩ := plsOf hb; clear hb))
      refine Calls.mono (HRS.out _ _ (HU.out.below belA)) ?_
      rintro e0 w5 ⟨A5, cap5, F5, rfl, hO5, hb5⟩
      have k0 : w5.heap[w.heap.size]? = some (.cells #[.int .i64 tn', .int .u32 te', .int .i64 s, .slice A T.length cap] 34 (0, 0)) := bblk hb5 (by simp <;> omega) blkA
      have k1 : w5.heap[w.heap.size + 1]? = some (.cells #[.int .i64 tn', .int .u32 te', .int .i64 s', .slice A' U.length cap'] 34 (0, 0)) := bblk hb5 (by simp <;> omega) blkA
      have hbb : Below w.heap.size w w5 := Below.trans belA (hb5.mono (by simp <;> omega))
      replace hO5 := hO5.below (B' := w.heap.size + 2) (by simp <;> omega) (Below.refl _ _)
      rw [hNX.out] at hO5 ⊢
      have HO5 := Lib.hid hO5
      obtain ⟨⟨c0, c1, c2, c3⟩, _⟩ := blk4 k0
      obtain ⟨⟨d0, d1, d2, d3⟩, f0, f1, f2, f3⟩ := blk4 k1
      have y0 := blklt k0
      have y1 := blklt k1
      clear hO5 hb5 k0 k1
      go_wp2_with fail
      refine Calls.mono (sameS_any _ tn' te' s tn' te' s T XL _ _ (HT.out.below belA) (by rw [hNX.out] at *; exact (HO5.out.move (B' := 0) (by omega) fun q h1 _ => by
        have hne : q ≠ w.heap.size + 1 := by omega
        exact (Below.heap_setCell _ ⟨w.heap.size + 1, 3, none⟩ _ q hne).trans ((Below.heap_setCell _ ⟨w.heap.size + 1, 2, none⟩ _ q hne).trans ((Below.heap_setCell _ ⟨w.heap.size + 1, 1, none⟩ _ q hne).trans (Below.heap_setCell _ ⟨w.heap.size + 1, 0, none⟩ _ q hne)))).lst) (by omega)) ?_
      rw [same_eq]
      rintro e0 w6 ⟨rfl, hb⟩
      have hb6 : Below w.heap.size w w6 := Below.trans belA (hb.mono (by simp <;> omega))
      clear hb
      go_wp2_with fail
      exact bodyPost_ret (v := .tuple #[.bool (eqL T XL), .int .i64 0]) (by simp [results, Tryz.results11, go_sem]) rfl ⟨by rw [hr.out.1, hr.out.2], belA⟩
    · have hr := Lib.hid (ae_no hac1 hc)
      have HRS : Hid (∀ W v, Lst shTerm W U v → Calls Tryz.prog 36 #[.agg #[.int .i64 tn', .int .u32 te', .int .i64 s', v], .int .i64 s] W (Raised (rsC tn' te' s' U s) 0 0 0 [] W)) := Lib.hid fun W v h => Calls.mono (RaiseSum_any W tn' te' s' U v s h he) fun e W' h => raised_c (n := s) h hc
      obtain ⟨C, hC⟩ : ∃ C, rsC tn' te' s' U s = C := ⟨_, rfl⟩
      rw [hC] at HRS hr hc
      have hcb : (C != 0) = true := by simpa using hc
      clear h1 h2 he he' hac hac1 hC
      go_enter Tryz.func11, Tryz.ntmps11
      go_wp2_with (first | (go_at_call 35; refine Calls.mono (ValidSum_any _ tn' te' s T _ (HT.out.below belA) HE.out) ?_; rw [H1.out]; rintro e w1 ⟨rfl, hb⟩; obtain ⟨X, m, rfl⟩ := plsOf hb; clear hb) | (go_at_call 35; refine Calls.mono (ValidSum_any _ tn' te' s' U _ (HU.out.below belA) HE'.out) ?_; rw [H2.out]; rintro e w1 ⟨rfl, hb⟩; obtain ⟨X, m, rfl⟩ := plsOf hb; clear hb))
      refine Calls.mono (HRS.out _ _ (HU.out.below belA)) ?_
      rintro e0 w5 ⟨A5, cap5, F5, rfl, hO5, hb5⟩
      have k1 : w5.heap[w.heap.size + 1]? = some (.cells #[.int .i64 tn', .int .u32 te', .int .i64 s', .slice A' U.length cap'] 34 (0, 0)) := bblk hb5 (by simp <;> omega) blkA
      have hbb : Below w.heap.size w w5 := Below.trans belA (hb5.mono (by simp <;> omega))
      obtain ⟨⟨d0, d1, d2, d3⟩, f0, f1, f2, f3⟩ := blk4 k1
      have y1 := blklt k1
      clear hO5 hb5 k1
      go_wp2_with fail
      exact bodyPost_ret (v := .tuple #[.bool false, .int .i64 C]) (by simp [results, Tryz.results11, go_sem]) rfl ⟨by rw [hr.out.1, hr.out.2], belA⟩
  have e : s = s' := by omega
  subst e
  have hr : Hid (aeC tn' te' s T tn' te' s U = 0 ∧ aeB tn' te' s T tn' te' s U = eqL T U) := Lib.hid (by
    have h0 : aeC tn' te' s T tn' te' s U = 0 := by rw [hac, if_neg hlt, if_neg hlt]
    exact ⟨h0, by unfold aeB; rw [h0, if_pos rfl, if_neg hlt, if_neg hlt]⟩)
  have HSM : Hid (∀ W v u, Lst shTerm W T v → Lst shTerm W U u → Calls Tryz.prog 37 #[.agg #[.int .i64 tn', .int .u32 te', .int .i64 s, v], .agg #[.int .i64 tn', .int .u32 te', .int .i64 s, u]] W fun e W' => e = .returned (.bool (eqL T U)) ∧ Below W.heap.size W W') := Lib.hid fun W v u h h' => by
    have h2 := sameS_any W tn' te' s tn' te' s T U v u h h' (by omega)
    rw [same_eq] at h2
    exact h2
  clear h1 h2 he he' hac
  go_enter Tryz.func11, Tryz.ntmps11
  go_wp2_with (first | (go_at_call 35; refine Calls.mono (ValidSum_any _ tn' te' s T _ (HT.out.below belA) HE.out) ?_; rw [H1.out]; rintro e w1 ⟨rfl, hb⟩; obtain ⟨X, m, rfl⟩ := plsOf hb; clear hb) | (go_at_call 35; refine Calls.mono (ValidSum_any _ tn' te' s U _ (HU.out.below belA) HE'.out) ?_; rw [H2.out]; rintro e w1 ⟨rfl, hb⟩; obtain ⟨X, m, rfl⟩ := plsOf hb; clear hb) | (go_at_call 37; refine Calls.mono (HSM.out _ _ _ (HT.out.below belA) (HU.out.below belA)) ?_; rintro e w1 ⟨rfl, hb⟩; obtain ⟨X, m, rfl⟩ := plsOf hb; clear hb))
  exact bodyPost_ret (v := .tuple #[.bool (eqL T U), .int .i64 0]) (by simp [results, Tryz.results11, go_sem]) rfl ⟨by rw [hr.out.1, hr.out.2], belA⟩
end Go.Proofs.YtpcjinbbgnmchaaGreat

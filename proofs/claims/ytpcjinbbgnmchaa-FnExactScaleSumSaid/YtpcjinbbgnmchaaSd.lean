/- A sum times a fraction: spec.ScaleSum. -/
import Derived.Test.YtpcjinbbgnmchaaSc
import Derived.Test.YtpcjinbbgnmchaaVr
import Derived.Test.YtpcjinbbgnmchaaVt
namespace Go.Proofs.Ytpcjinbbgnmchaa
open Go.ChangeShapes Go.WideShapes Go.RowKit
set_option linter.unusedVariables false
set_option linter.unusedSimpArgs false
attribute [local irreducible] Calls
theorem okFr_bd {q : Int × Int} (h : okFr q) : -9223372036854775808 ≤ q.1 ∧ q.1 ≤ 9223372036854775807 ∧ -9223372036854775808 ≤ q.2 ∧ q.2 ≤ 9223372036854775807 := by
  obtain ⟨h1, h2⟩ := h
  simp [okI, Lit.wf, IntKind.min, IntKind.max, IntKind.signed, IntKind.bits] at h1 h2
  omega
/-- The code of a sum times a fraction. -/
def skC (tn te s : Int) (T : List Trm) (q : Int × Int) : Int := if sumOk tn te s T && frOk q.1 q.2 then scC T q else 1
theorem sum_in {tn te s : Int} {T : List Trm} (h : sumOk tn te s T = true) : ∀ t ∈ T, inF t.2 := fun t ht => inF_of_ok (okT_iff.1 (sumOk_mem h ht)).2.2.2.1
set_option maxHeartbeats 2000000 in
theorem sScaleSum_any (w : World) (tn te s : Int) (T : List Trm) (v : Value) (q : Int × Int) (hT : Lst shTerm w T v) (he : 0 ≤ te ∧ te ≤ 4294967295) (hqo : okFr q) :
    Calls Try.prog 6 #[.agg #[.int .i64 tn, .int .u32 te, .int .i64 s, v], .agg #[.int .i64 q.1, .int .i64 q.2]] w (SumRet w.heap.size w (skC tn te s T q) (tdT (skC tn te s T q) (tn, te)) (tdS (skC tn te s T q) s) (tdL (skC tn te s T q) (nzT (scX T q)))) := by
  have HT := Lib.hid hT
  have HE := Lib.hid he
  obtain ⟨i1, i2, i3, i4⟩ := okFr_bd hqo
  obtain ⟨A, cap, rfl, _, _⟩ := formTerm hT
  clear hT hqo
  cases h1 : sumOk tn te s T
  · have hr : Hid (skC tn te s T q = 1) := Lib.hid (by simp [skC, h1])
    have H1 := Lib.hid h1
    clear h1 he
    go_enter Try.func6, Try.ntmps6
    go_wp2_with (first | (go_at_call 20; refine Calls.mono (l05Ok_any _ _ tn te s T _ blkA (HT.out.below belA) HE.out) ?_; rw [H1.out]; rintro e w1 ⟨rfl, hb⟩; obtain ⟨X, m, rfl⟩ := plsOf hb; clear hb))
    refine bodyPost_ret (v := .tuple #[.agg #[.int .i64 0, .int .u32 0, .int .i64 0, .slice none 0 0], .int .i64 1]) (by simp [results, Try.results6, go_sem, *]) rfl ?_
    rw [hr.out]
    exact sumRet_no rfl rfl rfl belA rfl
  have H1 := Lib.hid h1
  cases h2 : frOk q.1 q.2
  · have hr : Hid (skC tn te s T q = 1) := Lib.hid (by simp [skC, h2])
    have H2 := Lib.hid h2
    clear h1 h2 he
    go_enter Try.func6, Try.ntmps6
    go_wp2_with (first | (go_at_call 20; refine Calls.mono (l05Ok_any _ _ tn te s T _ blkA (HT.out.below belA) HE.out) ?_; rw [H1.out]; rintro e w1 ⟨rfl, hb⟩; obtain ⟨X, m, rfl⟩ := plsOf hb; clear hb) | (go_at_call 21; refine Calls.mono (sok_any _ _ _ i1 i2 i3 i4) ?_; rw [H2.out]; rintro e w1 ⟨rfl, hb⟩; obtain ⟨X, m, rfl⟩ := plsOf hb; clear hb))
    refine bodyPost_ret (v := .tuple #[.agg #[.int .i64 0, .int .u32 0, .int .i64 0, .slice none 0 0], .int .i64 1]) (by simp [results, Try.results6, go_sem, *]) rfl ?_
    rw [hr.out]
    exact sumRet_no rfl rfl rfl belA rfl
  have H2 := Lib.hid h2
  have hr : Hid (skC tn te s T q = scC T q) := Lib.hid (by simp [skC, h1, h2])
  have HIN := Lib.hid (sum_in h1)
  have HPW := Lib.hid (sum_pw h1)
  have hl : T.length ≤ 64 := (sumOk_iff.1 h1).2.2.1
  have HQ := Lib.hid (inF_of_ok (d := q) h2)
  clear h1 h2 he
  rw [hr.out]
  go_enter Try.func6, Try.ntmps6
  go_wp2_with (first | (go_at_call 20; refine Calls.mono (l05Ok_any _ _ tn te s T _ blkA (HT.out.below belA) HE.out) ?_; rw [H1.out]; rintro e w1 ⟨rfl, hb⟩; obtain ⟨X, m, rfl⟩ := plsOf hb; clear hb) | (go_at_call 21; refine Calls.mono (sok_any _ _ _ i1 i2 i3 i4) ?_; rw [H2.out]; rintro e w1 ⟨rfl, hb⟩; obtain ⟨X, m, rfl⟩ := plsOf hb; clear hb))
  refine Calls.mono (l05Scale_any _ w.heap.size tn te s T _ q blkA (HT.out.below belA) (by omega) HIN.out HQ.out HPW.out) ?_
  rintro e0 w5 ⟨A5, cap5, F5, rfl, hO5, hb5⟩
  have kr : w5.heap[w.heap.size + 1 + 1]? = some (.cells #[.int .i64 0, .int .u32 0, .int .i64 0, .slice none 0 0] 34 (0, 0)) := bblk hb5 (by simp <;> omega) blkA
  have hbb : Below w.heap.size w w5 := Below.trans belA (hb5.mono (by simp <;> omega))
  replace hO5 := hO5.below (B' := w.heap.size + 3) (by simp <;> omega) (Below.refl _ _)
  obtain ⟨C, hC⟩ : ∃ C, Hid (scC T q = C) := ⟨_, Lib.hid rfl⟩
  rw [hC.out] at hO5 ⊢
  obtain ⟨XL, hXL, NX, hNX⟩ : ∃ XL : List Trm, Hid (tdL C (nzT (scX T q)) = XL) ∧ ∃ NX : Nat, Hid (XL.length = NX) := ⟨_, Lib.hid rfl, _, Lib.hid rfl⟩
  rw [hXL.out] at hO5 ⊢
  rw [hNX.out] at hO5 ⊢
  have HO5 := Lib.hid hO5
  obtain ⟨⟨c50, c51, c52, c53⟩, f50, f51, f52, f53⟩ := blk4 kr
  have zz5 := blklt kr
  clear hO5 hb5 kr
  go_wp2_with fail
  refine bodyPost_ret (v := .tuple #[.agg #[.int .i64 (tdT C (tn, te)).1, .int .u32 (tdT C (tn, te)).2, .int .i64 (tdS C s), .slice A5 NX cap5], .int .i64 C]) (by simp [results, Try.results6, go_sem, *]) rfl ?_
  rw [hC.out, hXL.out]
  refine ⟨A5, cap5, F5, ?_, ?_, ?_⟩
  · rw [hNX.out]
  · rw [hNX.out]
    refine HO5.out.move (by omega) fun q h1 _ => ?_
    have hne : q ≠ w.heap.size + 1 + 1 := by omega
    exact (Below.heap_setCell _ ⟨w.heap.size + 1 + 1, 3, none⟩ _ q hne).trans ((Below.heap_setCell _ ⟨w.heap.size + 1 + 1, 2, none⟩ _ q hne).trans ((Below.heap_setCell _ ⟨w.heap.size + 1 + 1, 1, none⟩ _ q hne).trans (Below.heap_setCell _ ⟨w.heap.size + 1 + 1, 0, none⟩ _ q hne)))
  · exact belA
end Go.Proofs.Ytpcjinbbgnmchaa

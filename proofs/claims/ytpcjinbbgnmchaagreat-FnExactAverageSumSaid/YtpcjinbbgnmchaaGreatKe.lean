/- The average of a sum: spec.AverageSum. -/
import Derived.Test.YtpcjinbbgnmchaaGreatKd
namespace Go.Proofs.YtpcjinbbgnmchaaGreat
open Go.ChangeShapes Go.WideShapes Go.RowKit
set_option linter.unusedVariables false
set_option linter.unusedSimpArgs false
attribute [local irreducible] Calls
set_option maxHeartbeats 4000000 in
theorem sAverageSum_any (w : World) (tn te s : Int) (T : List Trm) (v : Value) (hT : Lst shTerm w T v) (he : 0 ≤ te ∧ te ≤ 4294967295) :
    Calls Tryz.prog 27 #[.agg #[.int .i64 tn, .int .u32 te, .int .i64 s, v]] w (SumRet w.heap.size w (agC tn te s T) (tdT (agC tn te s T) (0, 0)) (tdS (agC tn te s T) s) (agL tn te s T)) := by
  unfold agL
  have HT := Lib.hid hT
  have HE := Lib.hid he
  obtain ⟨A, cap, rfl, _, _⟩ := formTerm hT
  clear hT
  cases h1 : sumOk tn te s T
  · have hr : Hid (agC tn te s T = 1) := Lib.hid (by simp [agC, h1])
    have H1 := Lib.hid h1
    clear h1 he
    go_enter Tryz.func27, Tryz.ntmps27
    go_wp2_with (first | (go_at_call 30; refine Calls.mono (l05Ok_any _ w.heap.size tn te s T _ blkA (HT.out.below belA) HE.out) ?_; rw [H1.out]; rintro e w1 ⟨rfl, hb⟩; obtain ⟨X, m, rfl⟩ := plsOf hb; clear hb))
    refine bodyPost_ret (v := .tuple #[.agg #[.int .i64 0, .int .u32 0, .int .i64 0, .slice none 0 0], .int .i64 1]) (by simp [results, Tryz.results27, go_sem, *]) rfl ?_
    rw [hr.out]
    exact sumRet_no rfl rfl rfl belA rfl
  have H1 := Lib.hid h1
  have hr : Hid (agC tn te s T = avC T) := Lib.hid (by simp [agC, h1])
  have HAV : Hid (∀ (W : World) (x : Value), W.heap[w.heap.size]? = some (.cells #[.int .i64 tn, .int .u32 te, .int .i64 s, x] 34 (0, 0)) → Lst shTerm W T x → Calls Tryz.prog 67 #[.pointer (some ⟨w.heap.size, 0, none⟩)] W (SumRet W.heap.size W (avC T) (tdT (avC T) (0, 0)) (tdS (avC T) s) (tdL (avC T) (nzT (fI (avX T)).2)))) := Lib.hid fun W x k0 hx => l05Average_any W _ tn te s T x k0 hx h1
  obtain ⟨C, hC⟩ : ∃ C, avC T = C := ⟨_, rfl⟩
  obtain ⟨XL, hXL, NX, hNX⟩ : ∃ XL : List Trm, Hid (tdL C (nzT (fI (avX T)).2) = XL) ∧ ∃ NX : Nat, Hid (XL.length = NX) := ⟨_, Lib.hid rfl, _, Lib.hid rfl⟩
  rw [hr.out]
  rw [hC, hXL.out] at HAV ⊢
  clear h1 he hC hr
  obtain ⟨N, hN⟩ : ∃ N : Nat, Hid (T.length = N) := ⟨_, Lib.hid rfl⟩
  rw [hN.out]
  rw [hN.out] at HT
  go_enter Tryz.func27, Tryz.ntmps27
  go_wp2_with fail
  refine Calls.mono (l05Ok_any _ w.heap.size tn te s T _ blkA (HT.out.below belA) HE.out) ?_
  rw [H1.out]
  rintro e0 w1 ⟨rfl, hb⟩
  have k0 : w1.heap[w.heap.size]? = some (.cells #[.int .i64 tn, .int .u32 te, .int .i64 s, .slice A N cap] 34 (0, 0)) := bblk hb (by simp <;> omega) blkA
  have k1 : w1.heap[w.heap.size + 1]? = some (.cells #[.int .i64 0, .int .u32 0, .int .i64 0, .slice none 0 0] 34 (0, 0)) := bblk hb (by simp <;> omega) blkA
  have HB1 := Lib.hid (show Below w.heap.size w w1 from Below.trans belA (hb.mono (by simp <;> omega)))
  have K0 := Lib.hid k0
  have K1 := Lib.hid k1
  have y1 := blklt k1
  have hz1 := HB1.out.size
  clear hb k0 k1
  go_wp2_with fail
  refine Calls.mono (HAV.out _ _ K0.out (HT.out.below HB1.out)) ?_
  rintro e0 w4 ⟨A4, cap4, F4, rfl, hO4, hb⟩
  rw [hNX.out] at hO4 ⊢
  have HB4 := Lib.hid (HB1.out.trans (hb.mono HB1.out.size))
  have k24 := bblk hb y1 K1.out
  have HO4 := Lib.hid hO4
  obtain ⟨⟨g0, g1, g2, g3⟩, f0, f1, f2, f3⟩ := blk4 k24
  have y24 := blklt k24
  clear hO4 hb k24
  go_wp2_with fail
  refine bodyPost_ret (v := .tuple #[.agg #[.int .i64 (tdT C (0, 0)).1, .int .u32 (tdT C (0, 0)).2, .int .i64 (tdS C s), .slice A4 NX cap4], .int .i64 C]) (by simp [results, Tryz.results27, go_sem, *]) rfl ?_
  refine ⟨A4, cap4, F4, by rw [hNX.out], ?_, ?_⟩
  · rw [hNX.out]
    refine HO4.out.move (by omega) fun q h1 _ => ?_
    have hne : q ≠ w.heap.size + 1 := by omega
    exact (Below.heap_setCell _ ⟨w.heap.size + 1, 3, none⟩ _ q hne).trans ((Below.heap_setCell _ ⟨w.heap.size + 1, 2, none⟩ _ q hne).trans ((Below.heap_setCell _ ⟨w.heap.size + 1, 1, none⟩ _ q hne).trans (Below.heap_setCell _ ⟨w.heap.size + 1, 0, none⟩ _ q hne)))
  · have hb4 := HB4.out
    exact belA
end Go.Proofs.YtpcjinbbgnmchaaGreat

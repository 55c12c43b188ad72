import Derived.Test.YtekchdgpaemofaaGreatYyJe
import Derived.Test.YtekchdgpaemofaaGreatYyRk
namespace Go.Proofs.YtekchdgpaemofaaGreat
open Go.ChangeShapes Go.WideShapes Go.RowKit
set_option linter.unusedVariables false
set_option linter.unusedSimpArgs false
attribute [local irreducible] Calls
theorem prC_oks : ∀ n ≤ 5, ∀ k ≤ 3, ∀ q1 ≤ 5, ∀ q2 ≤ 5, (decide (k + q1 + q2 ≤ n)) = true → ((prC k n q1 q2).all fun p => vlB (seqI k ++ p.2) && decide (p.2.length = q2)) = true := by decide +kernel
theorem prC_ok {n k q1 q2 : Nat} (hn : n ≤ 5) (hk : k ≤ 3) (h : k + q1 + q2 ≤ n) {L L2 : List Int} (hL : L ∈ chs (othI k n) q1 0 []) (hL2 : L2 ∈ chs (leftI k n L) q2 0 []) : VL (seqI k ++ L2) ∧ L2.length = q2 := by
  have h1 := prC_oks n hn k hk q1 (by omega) q2 (by omega) (by simpa using h)
  rw [List.all_eq_true] at h1
  have h2 := h1 (L, L2) (by unfold prC; rw [List.mem_flatMap]; exact ⟨L, hL, List.mem_map.2 ⟨L2, hL2, rfl⟩⟩)
  simp only [Bool.and_eq_true, decide_eq_true_eq] at h2
  exact ⟨VL.of h2.1, h2.2⟩
set_option maxHeartbeats 2000000 in
theorem joint_any (w : World) (k n q1 q2 : Nat) (e : Int) (f h : Flg) (hk : k ≤ 3) (hn : n ≤ 5) (hkq : k + q1 + q2 ≤ n) (hf : flV f = true) (hfo : okFlag f) (hfk : f.1 = k) (hfq : f.2.1 = ((k + q1 : Nat) : Int)) (hh : flV h = true) (hho : okFlag h) (hhk : h.1 = k) (hhq : h.2.1 = ((k + q2 : Nat) : Int)) :
    Calls Tryz.prog 150 #[.agg #[.int .i64 f.1, .int .i64 f.2.1, .int .u32 f.2.2], .agg #[.int .i64 h.1, .int .i64 h.2.1, .int .u32 h.2.2], .agg #[.int .i64 k, .int .i64 n, .int .u32 e]] w fun r w' => r = .returned (.agg #[.int .i64 (jns (ptB k e f) (ptB k e h) k n q1 q2).1, .int .i64 (jns (ptB k e f) (ptB k e h) k n q1 q2).2]) ∧ Below w.heap.size w w' := by
  have hkn : k ≤ n := by omega
  have hbd := jn_bd hn hk hkq (ptB k e f) (ptB k e h)
  obtain ⟨C, hC⟩ : ∃ C : Int, Hid ((jnM (ptB k e f) (ptB k e h) k n q1 q2 : Nat) = C) := ⟨_, Lib.hid rfl⟩
  obtain ⟨Q, hQ⟩ : ∃ Q : Int, Hid ((jnA k n q1 q2 : Nat) = Q) := ⟨_, Lib.hid rfl⟩
  have c1 : 0 ≤ C ∧ C ≤ 100 := by rw [← hC.out]; omega
  have c2 : 1 ≤ Q ∧ Q ≤ 100 := by rw [← hQ.out]; omega
  have hr : Hid (jns (ptB k e f) (ptB k e h) k n q1 q2 = (lowP C Q, lowQ C Q)) := Lib.hid (by unfold jns; rw [hC.out, hQ.out])
  have hfold : Hid ((chs (othI k n) q1 0 []).foldl (jnOut (ptB k e f) (ptB k e h) k n q2) (0, 0) = (C, Q)) := Lib.hid (by rw [jn_fold hn hk hkq, hC.out, hQ.out])
  have hfl := (flV_iff _).1 hf
  have hfree : Hid (f.2.1 - f.1 = (q1 : Int)) := Lib.hid (by rw [hfq, hfk]; omega)
  have hb1 : 0 ≤ f.1 ∧ f.1 ≤ 5 := by omega
  have hb2 : 0 ≤ f.2.1 ∧ f.2.1 ≤ 5 := by omega
  have hq1 : q1 ≤ 5 := by omega
  have hqt : Hid (k + q1 = f.2.1.toNat) := Lib.hid (by rw [hfq]; rfl)
  have HF := Lib.hid hf
  have HFO := Lib.hid hfo
  have HFK := Lib.hid hfk
  have HH := Lib.hid hh
  have HHO := Lib.hid hho
  have HHK := Lib.hid hhk
  have HHQ := Lib.hid hhq
  have eg : ∀ args w, (callFunc 226 args).run Tryz.prog w = .ok (.enter 226 args) w := enters_of Tryz.func226 (by kernel_rfl) rfl
  have HD : Hid (Does 226 #[.pointer (some ⟨w.heap.size + 1 + 1, 0, none⟩), .pointer (some ⟨w.heap.size, 0, none⟩), .pointer (some ⟨w.heap.size + 1, 0, none⟩), .pointer (some ⟨w.heap.size + 1 + 1 + 1 + 1 + 1, 0, none⟩), .pointer (some ⟨w.heap.size + 1 + 1 + 1 + 1, 0, none⟩)] (w.heap.size + 1 + 1 + 1 + 1 + 1 + 1) [w.heap.size + 1 + 1 + 1 + 1 + 1, w.heap.size + 1 + 1 + 1 + 1]
      (fun (s : Int × Int) (V : World) => (V.heap[w.heap.size + 1 + 1]? = some (.cells #[.int .i64 k, .int .i64 n, .int .u32 e] 104 (0, 0)) ∧ V.heap[w.heap.size]? = some (.cells #[.int .i64 f.1, .int .i64 f.2.1, .int .u32 f.2.2] 104 (0, 0)) ∧ V.heap[w.heap.size + 1]? = some (.cells #[.int .i64 h.1, .int .i64 h.2.1, .int .u32 h.2.2] 104 (0, 0))) ∧ V.heap[w.heap.size + 1 + 1 + 1 + 1 + 1]? = some (.cells #[.int .i64 s.2] 2 (0, 0)) ∧ V.heap[w.heap.size + 1 + 1 + 1 + 1]? = some (.cells #[.int .i64 s.1] 2 (0, 0)))
      (jnOut (ptB k e f) (ptB k e h) k n q2) (fun L => (VL (seqI k ++ L) ∧ L.length = q1) ∧ ∀ L2 ∈ chs (leftI k n L) q2 0 [], VL (seqI k ++ L2) ∧ L2.length = q2)) := Lib.hid
    { enters := eg
      keep := fun s V V' h hb => ⟨⟨bblk hb (blklt h.1.1) h.1.1, bblk hb (blklt h.1.2.1) h.1.2.1, bblk hb (blklt h.1.2.2) h.1.2.2⟩, bblk hb (blklt h.2.1) h.2.1, bblk hb (blklt h.2.2) h.2.2⟩
      call := fun s V L v hok hI hB hv => by
        refine (joint1 V _ _ _ _ _ k n q2 e f h s L v hok.1.1 (by rw [hok.1.2]; exact hqt.out) hk hkn hn HF.out HFO.out HFK.out HH.out HHO.out HHK.out HHQ.out hok.2 hI.1.1 hI.1.2.1 hI.1.2.2 hI.2.1 hI.2.2 ⟨by omega, by omega⟩ ⟨by omega, by omega⟩ ⟨by omega, by omega⟩ (by omega) hv.lst).mono ?_
        rintro e0 V' ⟨rfl, ⟨h1, h2⟩, hc⟩
        exact ⟨rfl, ⟨⟨hc.blkj (by simp <;> omega) hI.1.1, hc.blkj (by simp <;> omega) hI.1.2.1, hc.blkj (by simp <;> omega) hI.1.2.2⟩, h1, h2⟩, hc⟩
      lt := by simp <;> omega }
  have HOK : Hid (∀ L ∈ chs (othI k n) q1 0 [], (VL (seqI k ++ L) ∧ L.length = q1) ∧ ∀ L2 ∈ chs (leftI k n L) q2 0 [], VL (seqI k ++ L2) ∧ L2.length = q2) := Lib.hid fun L hL => ⟨chs_ok hk hn (by omega) L hL, fun L2 hL2 => prC_ok hn hk hkq hL hL2⟩
  have HKP : Hid (∀ V w' : World, Below V.heap.size V w' → (fun w' => w'.cell? ⟨w.heap.size, 0, none⟩ = some (.int .i64 f.1) ∧ w'.cell? ⟨w.heap.size, 1, none⟩ = some (.int .i64 f.2.1) ∧ w'.cell? ⟨w.heap.size, 2, none⟩ = some (.int .u32 f.2.2) ∧ w'.cell? ⟨w.heap.size + 1 + 1, 0, none⟩ = some (.int .i64 k) ∧ w'.cell? ⟨w.heap.size + 1 + 1, 1, none⟩ = some (.int .i64 n) ∧ w'.cell? ⟨w.heap.size + 1 + 1, 2, none⟩ = some (.int .u32 e)) V → (fun w' => w'.cell? ⟨w.heap.size, 0, none⟩ = some (.int .i64 f.1) ∧ w'.cell? ⟨w.heap.size, 1, none⟩ = some (.int .i64 f.2.1) ∧ w'.cell? ⟨w.heap.size, 2, none⟩ = some (.int .u32 f.2.2) ∧ w'.cell? ⟨w.heap.size + 1 + 1, 0, none⟩ = some (.int .i64 k) ∧ w'.cell? ⟨w.heap.size + 1 + 1, 1, none⟩ = some (.int .i64 n) ∧ w'.cell? ⟨w.heap.size + 1 + 1, 2, none⟩ = some (.int .u32 e)) w') := Lib.hid fun V w' hb h => ⟨bkeep hb h.1, bkeep hb h.2.1, bkeep hb h.2.2.1, bkeep hb h.2.2.2.1, bkeep hb h.2.2.2.2.1, bkeep hb h.2.2.2.2.2⟩
  clear hf hfo hfk hfq hh hho hhk hhq hfl hbd
  go_enter Tryz.func150, Tryz.ntmps150
  go_wp2_with fail
  (refine wp_region_held_drew (S := (fun w' => w'.cell? ⟨w.heap.size, 0, none⟩ = some (.int .i64 f.1) ∧ w'.cell? ⟨w.heap.size, 1, none⟩ = some (.int .i64 f.2.1) ∧ w'.cell? ⟨w.heap.size, 2, none⟩ = some (.int .u32 f.2.2) ∧ w'.cell? ⟨w.heap.size + 1 + 1, 0, none⟩ = some (.int .i64 k) ∧ w'.cell? ⟨w.heap.size + 1 + 1, 1, none⟩ = some (.int .i64 n) ∧ w'.cell? ⟨w.heap.size + 1 + 1, 2, none⟩ = some (.int .u32 e))) (by kernel_rfl) ?_ (fun hHeld => ?_); (focus (first | exact hS | (simp [*, go_sem]; done) | fail)); refine rt 0 (some 9) (v := ?_) rfl rfl ?_ ?_; rotate_left; (focus (intro w' hSw; (try dsimp only at hSw); go_simp; (try with_reducible rfl))); (try simp only [Act.put, nA, nB, nC]); refine rt 2 (some 11) (v := ?_) rfl rfl ?_ ?_; rotate_left; (focus (intro w' hSw; (try dsimp only at hSw); go_simp; (try with_reducible rfl))); (try simp only [Act.put, nA, nB, nC]); refine rt 4 (some 13) (v := ?_) rfl rfl ?_ ?_; rotate_left; (focus (intro w' hSw; (try dsimp only at hSw); go_simp; (try with_reducible rfl))); (try simp only [Act.put, nA, nB, nC]); refine wpAnyH_ready (rs := [1]) (by kernel_rfl) (by simp) ?_; refine AllReadyH.cons rfl (fun K hK => ?_) AllReadyH.nil; go_simp; (go_at_call 225; refine Calls.mono (others_any _ k n e hkn hn) ?_; rintro e0 w1 ⟨g, o, c, rfl, hg, hL, hb⟩; have hS := HKP.out _ _ hb hHeld; have K0 := Lib.hid (show w1.heap[w.heap.size]? = some (Obj.cells #[.int .i64 f.1, .int .i64 f.2.1, .int .u32 f.2.2] 104 (0, 0)) from bblk hb (by simp <;> omega) (blkdrew blkA)); have K1 := Lib.hid (show w1.heap[w.heap.size + 1]? = some (Obj.cells #[.int .i64 h.1, .int .i64 h.2.1, .int .u32 h.2.2] 104 (0, 0)) from bblk hb (by simp <;> omega) (blkdrew blkA)); have K2 := Lib.hid (show w1.heap[w.heap.size + 1 + 1]? = some (Obj.cells #[.int .i64 k, .int .i64 n, .int .u32 e] 104 (0, 0)) from bblk hb (by simp <;> omega) (blkdrew blkA)); have K3 := Lib.hid (show w1.heap[w.heap.size + 1 + 1 + 1]? = some (Obj.cells #[.int .i64 0, .int .i64 0] 54 (0, 0)) from bblk hb (by simp <;> omega) (blkdrew blkA)); have K4 := Lib.hid (show w1.heap[w.heap.size + 1 + 1 + 1 + 1]? = some (Obj.cells #[.int .i64 0] 2 (0, 0)) from bblk hb (by simp <;> omega) (blkdrew blkA)); have K5 := Lib.hid (show w1.heap[w.heap.size + 1 + 1 + 1 + 1 + 1]? = some (Obj.cells #[.int .i64 0] 2 (0, 0)) from bblk hb (by simp <;> omega) (blkdrew blkA)); have HL := Lib.hid hL; have HB1 := Lib.hid (show Below w.heap.size w w1 from Below.trans belA (hb.mono (by simp <;> omega))); have hz1 := hb.size; have hg2 : w.heap.size + 1 + 1 + 1 + 1 + 1 < g := (by simp at hg; omega); clear hb hL hg); go_wp2_with fail; refine hK.out _ _ ?_ (fun hHeld => ?_); (focus (first | exact hS | (simp [*, go_sem]; done) | fail)); clear hK K; (try simp only [Act.put, nA, nB, nC]); refine wpAnyH_ready (rs := [3]) (by kernel_rfl) (by simp) ?_; refine AllReadyH.cons rfl (fun K hK => ?_) AllReadyH.nil; go_simp; (go_at_call 162; refine Calls.mono (ffree_any _ f hb1 hb2) ?_; rw [hfree.out]; rintro e0 w2 ⟨rfl, hb⟩; have hS := HKP.out _ _ hb hHeld; have J0 := Lib.hid (bblk hb (blklt K0.out) K0.out); have J1 := Lib.hid (bblk hb (blklt K1.out) K1.out); have J2 := Lib.hid (bblk hb (blklt K2.out) K2.out); have J3 := Lib.hid (bblk hb (blklt K3.out) K3.out); have J4 := Lib.hid (bblk hb (blklt K4.out) K4.out); have J5 := Lib.hid (bblk hb (blklt K5.out) K5.out); have HL2 := Lib.hid (HL.out.below hb); have HB2 := Lib.hid (HB1.out.trans (hb.mono HB1.out.size)); have hz2 := HB2.out.size; have yz := blklt J5.out; clear hb); go_wp2_with fail; refine hK.out _ _ ?_ (fun hHeld => ?_); (focus (first | exact hS | (simp [*, go_sem]; done) | fail)); clear hK K; (try simp only [Act.put, nA, nB, nC]); refine wpAnyH_ready (rs := [5]) (by kernel_rfl) (by simp) ?_; refine AllReadyH.cons rfl (fun K hK => ?_) AllReadyH.nil; go_simp; (refine Calls.mono (chosen_any HD.out (othI k n) g o (n - k) c q1 (by rw [othI_len]; omega) (by omega) _ (0, 0) (by omega) (by simp <;> omega) HL2.out ⟨⟨J2.out, J0.out, J1.out⟩, J5.out, J4.out⟩ HOK.out) ?_; rw [hfold.out]; rintro e0 w3 ⟨rfl, ⟨⟨i2, i0, i1⟩, i5, i4⟩, hC3⟩; have i3 := hC3.blkj (by simp <;> omega) J3.out; obtain ⟨r0, r1, rf0, rf1⟩ := blk2 i3; have yr := blklt i3; have c5 := blkc1 i5; have c4 := blkc1 i4; have hS := And.intro (blkc3 i0).1 (And.intro (blkc3 i0).2.1 (And.intro (blkc3 i0).2.2 (blkc3 i2))); have HB3 := Lib.hid (Below.trans HB2.out (hC3.below (B := w.heap.size) (by simp <;> omega) (by omega))); have K33 := Lib.hid i3; clear i0 i1 i2 i3 i4 i5 hC3); go_wp2_with fail; refine hK.out _ _ ?_ (fun hHeld => ?_); (focus (first | exact hS | (simp [*, go_sem]; done) | fail)); clear hK K; (try simp only [Act.put, nA, nB, nC]); refine wpAnyH_done (by kernel_rfl) ?_ _)
  clear hHeld
  have hb3 := HB3.out
  go_wp2_with (first | (go_at_call 223; refine Calls.mono (lowest_any C Q _ (by omega) (by omega) (by omega) (by omega) (by omega)) ?_; rintro e w1 ⟨rfl, hb⟩; obtain ⟨X, m, rfl⟩ := plsOf hb; clear hb))
  exact bodyPost_ret (v := .agg #[.int .i64 (lowP C Q), .int .i64 (lowQ C Q)]) (by simp [results, Tryz.results150, go_sem, *]) rfl ⟨by rw [hr.out], belA⟩
end Go.Proofs.YtekchdgpaemofaaGreat

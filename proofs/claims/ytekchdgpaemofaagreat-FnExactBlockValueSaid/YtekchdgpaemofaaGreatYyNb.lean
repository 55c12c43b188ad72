import Derived.Test.YtekchdgpaemofaaGreatYyNa
import Derived.Test.YtekchdgpaemofaaGreatYyVb
import Derived.Test.YtekchdgpaemofaaGreatYyCd
namespace Go.Proofs.YtekchdgpaemofaaGreat
open Go.ChangeShapes Go.WideShapes Go.ChangeAt Go.RowKit
set_option linter.unusedVariables false
set_option linter.unusedSimpArgs false
attribute [local irreducible] Calls
def bkC (fs : List Flg) (mt : List (List (Int × Int))) (n e : Int) : Int := if blkOk fs mt && grOk n e then (if n < roomB fs then 2 else 0) else 1
def bkO (fs : List Flg) (mt : List (List (Int × Int))) (n e : Int) : Option (Int × Int) := bvO mt (matL fs.length fs.length (paD fs n.toNat e))
theorem blk_fam {fs : List Flg} {mt : List (List (Int × Int))} (h : blkOk fs mt = true) (hok : ∀ d ∈ fs, okFlag d) : mt.length = fs.length ∧ (∀ r ∈ mt, r.length = fs.length ∧ ∀ d ∈ r, inF d) ∧ ∃ k q : Nat, Fam fs k q ∧ roomB fs = ((k + q + q : Nat) : Int) := by
  unfold blkOk at h
  rw [Bool.and_eq_true, Bool.and_eq_true, decide_eq_true_eq, decide_eq_true_eq] at h
  obtain ⟨⟨h1, h2⟩, h3⟩ := h
  obtain ⟨k, q, hF, hk, hq⟩ := fam_ofC h1 hok
  have hm := matOk_iff h2
  refine ⟨h3, fun r hr => ?_, k, q, hF, by unfold roomB; rw [hk, hq]; omega⟩
  obtain ⟨h4, h5⟩ := hm.2.1 r hr
  exact ⟨by omega, listOk_in h5⟩
set_option maxHeartbeats 2000000 in
theorem BlockValue_any (w : World) (fs : List Flg) (mt : List (List (Int × Int))) (n e : Int) (v u : Value) (h : Lst shFlag w fs v) (hm : Lst (shL shFr) w mt u) (hl : fs.length ≤ 1048576) (hgo : 0 ≤ e ∧ e ≤ 4294967295) :
    Calls Tryz.prog 30 #[.agg #[v, u], .agg #[.int .i64 n, .int .u32 e]] w fun r w' => r = .returned (.tuple #[.agg #[.int .i64 (cP (bkC fs mt n e) (bkO fs mt n e)), .int .i64 (cQ (bkC fs mt n e) (bkO fs mt n e))], .int .i64 (cC (bkC fs mt n e) (bkO fs mt n e))]) ∧ Below w.heap.size w w' := by
  have H1 := Lib.hid h
  have H2 := Lib.hid hm
  have HGO := Lib.hid hgo
  have HHV : Hid (∃ A n c, u = .slice A n c) := Lib.hid (by obtain ⟨A, c, rfl, _, _⟩ := formFrSS hm; exact ⟨_, _, _, rfl⟩)
  obtain ⟨A, cap, rfl, _, _, hok, _⟩ := lstFlag h
  obtain ⟨A2, cap2, rfl, _, _⟩ := formFrSS hm
  have HOK := Lib.hid hok
  obtain ⟨nf, hnf⟩ : ∃ nf, Hid (fs.length = nf) := ⟨_, Lib.hid rfl⟩
  obtain ⟨nm, hnm⟩ : ∃ nm, Hid (mt.length = nm) := ⟨_, Lib.hid rfl⟩
  rw [hnf.out] at H1 ⊢
  rw [hnm.out] at H2 HHV ⊢
  clear h hm hok hgo
  cases hb : blkOk fs mt
  · have hc : bkC fs mt n e = 1 := by unfold bkC; rw [hb]; rfl
    have HBB : Hid (∀ V, Below w.heap.size w V → Calls Tryz.prog 87 #[.agg #[.slice A nf cap, .slice A2 nm cap2]] V fun r w' => r = .returned (.bool true) ∧ Below V.heap.size V w') := Lib.hid fun V hV => by
      have := badBlock_any V fs mt _ _ (H1.out.below hV) (H2.out.below hV) hl
      rw [hb] at this
      exact this
    rw [hc]
    clear hb hc
    go_enter Tryz.func30, Tryz.ntmps30
    go_wp2_with (first | (go_at_call 87; refine Calls.mono (HBB.out _ belA) ?_; rintro e w1 ⟨rfl, hb⟩; obtain ⟨X, m, rfl⟩ := plsOf hb; clear hb))
    exact bodyPost_ret (v := .tuple #[.agg #[.int .i64 0, .int .i64 0], .int .i64 1]) (by simp [results, Tryz.results30, go_sem]) rfl ⟨rfl, belA⟩
  have HBB : Hid (∀ V, Below w.heap.size w V → Calls Tryz.prog 87 #[.agg #[.slice A nf cap, .slice A2 nm cap2]] V fun r w' => r = .returned (.bool false) ∧ Below V.heap.size V w') := Lib.hid fun V hV => by
    have := badBlock_any V fs mt _ _ (H1.out.below hV) (H2.out.below hV) hl
    rw [hb] at this
    exact this
  cases hg : grOk n e
  · have hc : bkC fs mt n e = 1 := by unfold bkC; rw [hg, Bool.and_false]; rfl
    have HBG : Hid (∀ V, Calls Tryz.prog 88 #[.agg #[.int .i64 n, .int .u32 e]] V fun r w' => r = .returned (.bool true) ∧ Below V.heap.size V w') := Lib.hid fun V => by
      have := badGraph_any n e V HGO.out
      rw [hg] at this
      exact this
    rw [hc]
    clear hb hc hg
    go_enter Tryz.func30, Tryz.ntmps30
    go_wp2_with (first | (go_at_call 87; refine Calls.mono (HBB.out _ belA) ?_; rintro e w1 ⟨rfl, hb⟩; obtain ⟨X, m, rfl⟩ := plsOf hb; clear hb) | (go_at_call 88; refine Calls.mono (HBG.out _) ?_; rintro e w1 ⟨rfl, hb⟩; obtain ⟨X, m, rfl⟩ := plsOf hb; clear hb))
    exact bodyPost_ret (v := .tuple #[.agg #[.int .i64 0, .int .i64 0], .int .i64 1]) (by simp [results, Tryz.results30, go_sem]) rfl ⟨rfl, belA⟩
  have HBG : Hid (∀ V, Calls Tryz.prog 88 #[.agg #[.int .i64 n, .int .u32 e]] V fun r w' => r = .returned (.bool false) ∧ Below V.heap.size V w') := Lib.hid fun V => by
    have := badGraph_any n e V HGO.out
    rw [hg] at this
    exact this
  have HRM : Hid (∀ W, Below w.heap.size w W → Calls Tryz.prog 89 #[.agg #[.slice A nf cap, .slice A2 nm cap2]] W fun e w' => e = .returned (.int .i64 (roomB fs)) ∧ Below W.heap.size W w') := Lib.hid fun W hW => room_any W fs _ _ (H1.out.below hW) (blk_hd hb).1 (blk_hd hb).2 ⟨_, _, _, rfl⟩
  obtain ⟨hml, hmr, k, q, hF, hrm⟩ := blk_fam hb HOK.out
  obtain ⟨m, rfl, hm5⟩ := gr_n hg
  obtain ⟨RM, hRM⟩ : ∃ RM, Hid (roomB fs = RM) := ⟨_, Lib.hid rfl⟩
  rw [hRM.out] at HRM hrm
  have hcc : bkC fs mt m e = if (m : Int) < RM then 2 else 0 := by unfold bkC; rw [hb, hg, hRM.out]; rfl
  by_cases hlt : (m : Int) < RM
  · have hc : bkC fs mt m e = 2 := by rw [hcc, if_pos hlt]
    rw [hc]
    clear hb hc hg hcc hml hmr hF hrm
    go_enter Tryz.func30, Tryz.ntmps30
    go_wp2_with (first | (go_at_call 87; refine Calls.mono (HBB.out _ belA) ?_; rintro e w1 ⟨rfl, hb⟩; obtain ⟨X1, m1, rfl⟩ := plsOf hb; clear hb) | (go_at_call 88; refine Calls.mono (HBG.out _) ?_; rintro e w1 ⟨rfl, hb⟩; obtain ⟨X2, m2, rfl⟩ := plsOf hb; clear hb))
    (refine wp_region_held_drew (S := (fun w' => w'.cell? ⟨w.heap.size, 0, none⟩ = some (.slice A nf cap) ∧ w'.cell? ⟨w.heap.size, 1, none⟩ = some (.slice A2 nm cap2) ∧ w'.cell? ⟨w.heap.size + 1, 0, none⟩ = some (.int .i64 (m : Int)))) (by kernel_rfl) ?_ (fun hHeld => ?_); (focus (first | exact hS | (simp [*, go_sem]; done) | fail)); refine rt 0 (some 16) (v := ?_) rfl rfl ?_ ?_; rotate_left; (focus (intro w' hSw; (try dsimp only at hSw); go_simp; (try with_reducible rfl))); (try simp only [Act.put, nA, nB, nC]); refine rt 1 (some 17) (v := ?_) rfl rfl ?_ ?_; rotate_left; (focus (intro w' hSw; (try dsimp only at hSw); go_simp; (try with_reducible rfl))); (try simp only [Act.put, nA, nB, nC]); refine rt 2 (some 18) (v := ?_) rfl rfl ?_ ?_; rotate_left; (focus (intro w' hSw; (try dsimp only at hSw); go_simp; (try with_reducible rfl))); (try simp only [Act.put, nA, nB, nC]); refine wpAnyH_ready (rs := [3]) (by kernel_rfl) (by simp) ?_; refine AllReadyH.cons rfl (fun K hK => ?_) AllReadyH.nil; go_simp; (go_at_call 89; refine Calls.mono (HRM.out _ belA) ?_; rintro e w1 ⟨rfl, hb⟩; obtain ⟨X3, m3, rfl⟩ := plsOf hb; clear hb); go_wp2_with fail; refine hK.out _ _ ?_ (fun hHeld => ?_); (focus (first | exact hS | (simp [*, go_sem]; done) | fail)); clear hK K; (try simp only [Act.put, nA, nB, nC]); refine rt 4 (some 20) (v := ?_) rfl rfl ?_ ?_; rotate_left; (focus (intro w' hSw; (try dsimp only at hSw); go_simp; (try with_reducible rfl))); (try simp only [Act.put, nA, nB, nC]); refine rt 5 (some 15) (v := ?_) rfl rfl ?_ ?_; rotate_left; (focus (intro w' hSw; (try dsimp only at hSw); go_simp; (try with_reducible rfl))); (try simp only [Act.put, nA, nB, nC]); refine wpAnyH_done (by kernel_rfl) ?_ _)
    clear hHeld
    go_wp2_with fail
    exact bodyPost_ret (v := .tuple #[.agg #[.int .i64 0, .int .i64 0], .int .i64 2]) (by simp [results, Tryz.results30, go_sem]) rfl ⟨rfl, belA⟩
  have hc : bkC fs mt m e = 0 := by rw [hcc, if_neg hlt]
  obtain ⟨BO, hBO⟩ : ∃ BO, Hid (bkO fs mt m e = BO) := ⟨_, Lib.hid rfl⟩
  have HBK : Hid (∀ V b, Below w.heap.size w V → w.heap.size ≤ b → V.heap[b]? = some (.cells #[.bool false] 129 (0, 0)) → Calls Tryz.prog 91 #[.pointer (some ⟨b, 0, none⟩), .agg #[.slice A nf cap, .slice A2 nm cap2], .agg #[.int .i64 m, .int .u32 e]] V fun r w' => FrRet b 0 BO V r w') := Lib.hid fun V b hV hbw hbb => by
    have := block_any V w b k q m e false fs mt _ _ hF hm5 (by omega) H1.out H2.out hml hmr hV hbw hbb
    rw [← hBO.out]
    exact this
  rw [hc, cP_0, cQ_0, cC_0, hBO.out]
  clear hb hc hg hcc hml hmr hF hrm
  go_enter Tryz.func30, Tryz.ntmps30
  go_wp2_with (first | (go_at_call 87; refine Calls.mono (HBB.out _ belA) ?_; rintro e w1 ⟨rfl, hb⟩; obtain ⟨X1, m1, rfl⟩ := plsOf hb; clear hb) | (go_at_call 88; refine Calls.mono (HBG.out _) ?_; rintro e w1 ⟨rfl, hb⟩; obtain ⟨X2, m2, rfl⟩ := plsOf hb; clear hb))
  (refine wp_region_held_drew (S := (fun w' => w'.cell? ⟨w.heap.size, 0, none⟩ = some (.slice A nf cap) ∧ w'.cell? ⟨w.heap.size, 1, none⟩ = some (.slice A2 nm cap2) ∧ w'.cell? ⟨w.heap.size + 1, 0, none⟩ = some (.int .i64 (m : Int)))) (by kernel_rfl) ?_ (fun hHeld => ?_); (focus (first | exact hS | (simp [*, go_sem]; done) | fail)); refine rt 0 (some 16) (v := ?_) rfl rfl ?_ ?_; rotate_left; (focus (intro w' hSw; (try dsimp only at hSw); go_simp; (try with_reducible rfl))); (try simp only [Act.put, nA, nB, nC]); refine rt 1 (some 17) (v := ?_) rfl rfl ?_ ?_; rotate_left; (focus (intro w' hSw; (try dsimp only at hSw); go_simp; (try with_reducible rfl))); (try simp only [Act.put, nA, nB, nC]); refine rt 2 (some 18) (v := ?_) rfl rfl ?_ ?_; rotate_left; (focus (intro w' hSw; (try dsimp only at hSw); go_simp; (try with_reducible rfl))); (try simp only [Act.put, nA, nB, nC]); refine wpAnyH_ready (rs := [3]) (by kernel_rfl) (by simp) ?_; refine AllReadyH.cons rfl (fun K hK => ?_) AllReadyH.nil; go_simp; (go_at_call 89; refine Calls.mono (HRM.out _ belA) ?_; rintro e w1 ⟨rfl, hb⟩; obtain ⟨X3, m3, rfl⟩ := plsOf hb; clear hb); go_wp2_with fail; refine hK.out _ _ ?_ (fun hHeld => ?_); (focus (first | exact hS | (simp [*, go_sem]; done) | fail)); clear hK K; (try simp only [Act.put, nA, nB, nC]); refine rt 4 (some 20) (v := ?_) rfl rfl ?_ ?_; rotate_left; (focus (intro w' hSw; (try dsimp only at hSw); go_simp; (try with_reducible rfl))); (try simp only [Act.put, nA, nB, nC]); refine rt 5 (some 15) (v := ?_) rfl rfl ?_ ?_; rotate_left; (focus (intro w' hSw; (try dsimp only at hSw); go_simp; (try with_reducible rfl))); (try simp only [Act.put, nA, nB, nC]); refine wpAnyH_done (by kernel_rfl) ?_ _)
  clear hHeld
  go_wp2_with fail
  refine Calls.mono (HBK.out _ _ belA (by first | omega | (simp <;> omega)) blkA) ?_
  rintro e0 w4 ⟨d, G, rfl, hT, hFl⟩
  have HT := Lib.hid hT
  have HK2 : Hid (w4.heap[w.heap.size + 1 + 1]? = some (.cells #[.int .i64 0, .int .i64 0] 54 (0, 0))) := Lib.hid (hFl.blkq blkA (by first | omega | (simp <;> omega)))
  have HKS := Lib.hid (hFl.blks blkA)
  have HB4 : Hid (Below w.heap.size w w4) := Lib.hid (hFl.bel (by first | omega | (simp <;> omega)) belA)
  clear hT hFl
  obtain ⟨s0, f0⟩ := blk1 HKS.out
  have ys := blklt HKS.out
  go_wp2_with fail
  refine Calls.mono (ktold_any _ 0 G d BO w4 ys s0 HT.out) ?_
  rintro e0 w5 ⟨rfl, hb5⟩
  have HB5 := Lib.hid (HB4.out.trans (hb5.mono HB4.out.size))
  have k2 := bblk hb5 (blklt HK2.out) HK2.out
  obtain ⟨r0, r1, r2, r3⟩ := blk2 k2
  have y2 := blklt k2
  have hb := HB5.out
  clear hb5
  go_wp2_with fail
  exact bodyPost_ret (v := .tuple #[.agg #[.int .i64 (rD BO).1, .int .i64 (rD BO).2], .int .i64 (rC BO)]) (by simp [results, Tryz.results30, go_sem, *]) rfl ⟨rfl, belA⟩
end Go.Proofs.YtekchdgpaemofaaGreat

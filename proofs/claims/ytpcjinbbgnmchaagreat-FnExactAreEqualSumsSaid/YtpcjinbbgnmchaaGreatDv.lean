/- spec.l04Density. -/
import Derived.Test.YtpcjinbbgnmchaaGreatDu
namespace Go.Proofs.YtpcjinbbgnmchaaGreat
open Go.ChangeShapes Go.WideShapes Go.RowKit
set_option linter.unusedVariables false
set_option linter.unusedSimpArgs false
attribute [local irreducible] Calls
set_option maxHeartbeats 1000000 in
theorem l04Density_any (w : World) (k n : Nat) (e : Int) (f : Flg) (hk : k ≤ 3) (hkn : k ≤ n) (hn : n ≤ 5) (he : okI .u32 e) (hf : flV f = true) (hfo : okFlag f) (hfk : f.1 = k) (hfn : f.2.1 ≤ n) :
    Calls Tryz.prog 147 #[.agg #[.int .i64 f.1, .int .i64 f.2.1, .int .u32 f.2.2], .agg #[.int .i64 k, .int .i64 n, .int .u32 e]] w fun r w' => r = .returned (.agg #[.int .i64 (dns k n e f).1, .int .i64 (dns k n e f).2]) ∧ Below w.heap.size w w' := by
  have hfl := (flV_iff _).1 hf
  obtain ⟨m, hm2⟩ := Int.eq_ofNat_of_zero_le hfl.2.1.1
  have hkm : k ≤ m := by have := hfl.2.2.1; omega
  have hmn : m ≤ n := by omega
  have hmt : f.2.1.toNat = m := by rw [hm2]; rfl
  have hfree : Hid (f.2.1 - f.1 = ((m - k : Nat) : Int)) := Lib.hid (by omega)
  obtain ⟨d1, d2⟩ := dnC_bd hkm hmn hn
  obtain ⟨c1, c2⟩ := ctF_bd (k := k) (n := n) (e := e) (f := f) hk hn (by omega)
  obtain ⟨C, hC⟩ : ∃ C, Hid (ctF k n e f = C) := ⟨_, Lib.hid rfl⟩
  obtain ⟨Q, hQ⟩ : ∃ Q : Nat, Hid (dnC k n m = (Q : Int)) := ⟨(dnC k n m).toNat, Lib.hid (by omega)⟩
  obtain ⟨LS, hLS⟩ : ∃ LS : List (List Int), Hid (s4L (m - k) k n = LS) := ⟨_, Lib.hid rfl⟩
  have hN : Hid (LS.length = Q) := Lib.hid (by
    have h1 := sets_len k hk n hn hkn (m - k) (by omega)
    have h2 := hQ.out
    unfold dnC at h2
    rw [hLS.out] at h1
    omega)
  have HCT : Hid (∀ w, Calls Tryz.prog 197 #[.agg #[.int .i64 f.1, .int .i64 f.2.1, .int .u32 f.2.2], .agg #[.int .i64 k, .int .i64 n, .int .u32 e]] w fun r w' => r = .returned (.int .i64 C) ∧ Below w.heap.size w w') := Lib.hid fun w => by
    have := l04Count_any w k n e f hk hkn hn he hf hfo hfk hfn
    rw [hC.out] at this
    exact this
  have HS4 : Hid (∀ w, Calls Tryz.prog 157 #[.int .i64 ((m - k : Nat) : Int), .agg #[.int .i64 k, .int .i64 n, .int .u32 e]] w fun r w' => ∃ A cap, r = .returned (.slice A Q cap) ∧ Below w.heap.size w w') := Lib.hid fun w => by
    have := l04Sets_any w (m - k) k n e (by omega) hk hkn hn
    rw [hLS.out] at this
    refine this.mono ?_
    rintro r w' ⟨A, cap, F, rfl, _, hb⟩
    exact ⟨A, cap, by rw [hN.out], hb⟩
  have hr : Hid (dns k n e f = (lowP C Q, lowQ C Q)) := Lib.hid (by unfold dns; rw [hmt, hC.out, hQ.out])
  rw [hC.out] at c1 c2
  rw [hQ.out] at d1 d2
  have hb1 : 0 ≤ f.1 ∧ f.1 ≤ 5 := by omega
  have hb2 : 0 ≤ f.2.1 ∧ f.2.1 ≤ 5 := by omega
  clear hfl hm2 hmt hf hfo hfk hfn
  go_enter Tryz.func147, Tryz.ntmps147
  go_wp2_with fail
  (refine wp_region_held_drew (S := (fun w' => w'.cell? ⟨w.heap.size, 0, none⟩ = some (.int .i64 f.1) ∧ w'.cell? ⟨w.heap.size, 1, none⟩ = some (.int .i64 f.2.1) ∧ w'.cell? ⟨w.heap.size, 2, none⟩ = some (.int .u32 f.2.2) ∧ w'.cell? ⟨w.heap.size + 1, 0, none⟩ = some (.int .i64 k) ∧ w'.cell? ⟨w.heap.size + 1, 1, none⟩ = some (.int .i64 n) ∧ w'.cell? ⟨w.heap.size + 1, 2, none⟩ = some (.int .u32 e))) (by kernel_rfl) ?_ (fun hHeld => ?_); (focus (first | (simp [*, go_sem]; done) | fail)); refine rt 0 (some 5) (v := ?_) rfl rfl ?_ ?_; rotate_left; (focus (intro w' hSw; (try dsimp only at hSw); go_simp; (try with_reducible rfl))); (try simp only [Act.put, nA, nB, nC]); refine rt 1 (some 6) (v := ?_) rfl rfl ?_ ?_; rotate_left; (focus (intro w' hSw; (try dsimp only at hSw); go_simp; (try with_reducible rfl))); (try simp only [Act.put, nA, nB, nC]); refine rt 3 (some 8) (v := ?_) rfl rfl ?_ ?_; rotate_left; (focus (intro w' hSw; (try dsimp only at hSw); go_simp; (try with_reducible rfl))); (try simp only [Act.put, nA, nB, nC]); refine rt 5 (some 10) (v := ?_) rfl rfl ?_ ?_; rotate_left; (focus (intro w' hSw; (try dsimp only at hSw); go_simp; (try with_reducible rfl))); (try simp only [Act.put, nA, nB, nC]); refine wpAnyH_ready (rs := [2]) (by kernel_rfl) (by simp) ?_; refine AllReadyH.cons rfl (fun K hK => ?_) AllReadyH.nil; go_simp; (go_at_call 197; refine Calls.mono (HCT.out _) ?_; rintro e w1 ⟨rfl, hb⟩; obtain ⟨X1, m1, rfl⟩ := plsOf hb; clear hb); go_wp2_with fail; refine hK.out _ _ ?_ (fun hHeld => ?_); (focus (first | (simp [*, go_sem]; done) | fail)); clear hK K; (try simp only [Act.put, nA, nB, nC]); refine wpAnyH_ready (rs := [4]) (by kernel_rfl) (by simp) ?_; refine AllReadyH.cons rfl (fun K hK => ?_) AllReadyH.nil; go_simp; (go_at_call 158; refine Calls.mono (l04Free_any _ f hb1 hb2) ?_; rw [hfree.out]; rintro e0 w3 ⟨rfl, hb⟩; obtain ⟨X3, m3, rfl⟩ := plsOf hb; clear hb); go_wp2_with fail; refine hK.out _ _ ?_ (fun hHeld => ?_); (focus (first | (simp [*, go_sem]; done) | fail)); clear hK K; (try simp only [Act.put, nA, nB, nC]); refine wpAnyH_ready (rs := [6]) (by kernel_rfl) (by simp) ?_; refine AllReadyH.cons rfl (fun K hK => ?_) AllReadyH.nil; go_simp; (go_at_call 157; refine Calls.mono (HS4.out _) ?_; rintro e0 w3 ⟨A4, cap4, rfl, hb⟩; obtain ⟨X4, m4, rfl⟩ := plsOf hb; clear hb); go_wp2_with fail; refine hK.out _ _ ?_ (fun hHeld => ?_); (focus (first | (simp [*, go_sem]; done) | fail)); clear hK K; (try simp only [Act.put, nA, nB, nC]); refine rt 7 (some 12) (v := ?_) rfl rfl ?_ ?_; rotate_left; (focus (intro w' hSw; (try dsimp only at hSw); go_simp; (try with_reducible rfl))); (try simp only [Act.put, nA, nB, nC]); refine wpAnyH_ready (rs := [8]) (by kernel_rfl) (by simp) ?_; refine AllReadyH.cons rfl (fun K hK => ?_) AllReadyH.nil; go_simp; (go_at_call 161; refine Calls.mono (l04Ratio_any _ C Q ⟨by omega, by omega⟩ ⟨by omega, by omega⟩) ?_; rintro e w1 ⟨rfl, hb⟩; obtain ⟨X5, m5, rfl⟩ := plsOf hb; clear hb); go_wp2_with fail; refine hK.out _ _ ?_ (fun hHeld => ?_); (focus (first | (simp [*, go_sem]; done) | fail)); clear hK K; (try simp only [Act.put, nA, nB, nC]); refine wpAnyH_ready (rs := [9]) (by kernel_rfl) (by simp) ?_; refine AllReadyH.cons rfl (fun K hK => ?_) AllReadyH.nil; (try go_simp); refine hK.out _ _ ?_ (fun hHeld => ?_); (focus (first | (simp [*, go_sem]; done) | fail)); clear hK K; (try simp only [Act.put, nA, nB, nC]); refine wpAnyH_done (by kernel_rfl) ?_ _)
  clear hHeld
  go_wp2_with fail
  exact bodyPost_ret (v := .agg #[.int .i64 (lowP C Q), .int .i64 (lowQ C Q)]) (by simp [results, Tryz.results147, go_sem]) rfl ⟨by rw [hr.out], belA⟩
end Go.Proofs.YtpcjinbbgnmchaaGreat

import Derived.Test.YtekchdgpaemofaaGreatYyQb
import Derived.Test.YtekchdgpaemofaaGreatYyQc
import Derived.Test.YtekchdgpaemofaaGreatYyVt
import Derived.Test.YtekchdgpaemofaaGreatYyVs
namespace Go.Proofs.YtekchdgpaemofaaGreat
open Go.ChangeShapes Go.WideShapes Go.ChangeAt Go.RowKit
set_option linter.unusedVariables false
set_option linter.unusedSimpArgs false
attribute [local irreducible] Calls
def pgC (fs : List Flg) (n e : Int) : Int := tkC fs (grOk n e) true (n - (hdF fs).1)
def pgR (fs : List Flg) (n e : Int) : List (List (Int × Int)) := if pgC fs n e = 0 then matL fs.length fs.length (paD fs n.toNat e) else []
theorem pg_fam {fs : List Flg} {n e : Int} (hg : grOk n e = true) : pgC fs n e = if famC fs = 0 then (if n - (hdF fs).1 < 2 * ((hdF fs).2.1 - (hdF fs).1) then 2 else 0) else famC fs := by
  unfold pgC tkC famC
  rw [hg, Bool.and_true]
  cases flagsB fs
  · simp
  · by_cases h8 : 8 < fs.length
    · simp [h8]
    · by_cases h0 : fs.length = 0
      · simp [h8, h0]
      · cases alikesB fs <;> simp [h8, h0]
theorem tyNe_eqQ (f d : Flg) : tyNe f d = !eq2 d.1 (tyE d) f.1 (tyE f) := rfl
theorem fam_ofC {fs : List Flg} (h : famC fs = 0) (hok : ∀ d ∈ fs, okFlag d) : ∃ k q : Nat, Fam fs k q ∧ (hdF fs).1 = k ∧ (hdF fs).2.1 = ((k + q : Nat) : Int) := by
  unfold famC at h
  split at h
  · rename_i h1
    split at h
    · cases h
    · split at h
      · cases h
      · split at h
        · rename_i h8 h0 h6
          have hV := flagsB_iff.1 h1
          have hl : 0 < fs.length := by omega
          have hd : fs[0]? = some (fs[0]'hl) := List.getElem?_eq_getElem hl
          have hh := hdF_eq hd
          obtain ⟨d, hdd⟩ : ∃ d, fs[0]'hl = d := ⟨_, rfl⟩
          rw [hdd] at hh hd
          have hv := (flV_iff _).1 (hV d (List.mem_of_getElem? hd))
          rw [hh]
          refine ⟨d.1.toNat, (d.2.1 - d.1).toNat, ⟨hl, by omega, by omega, fun a ha => ?_⟩, by omega, by omega⟩
          have h8 := (alikesB_iff hd).1 h6 a ha
          refine ⟨hV a ha, hok a ha, ?_, ?_⟩
          · have := h8.1
            rw [tyNe_eqQ] at this
            simp [eq2] at this
            omega
          · have := h8.2
            have : a.2.1 = d.2.1 := by simpa [nNe] using this
            omega
        · cases h
  · cases h
theorem gr_n {n e : Int} (h : grOk n e = true) : ∃ m : Nat, n = m ∧ m ≤ 5 := by
  unfold grOk at h
  rw [Bool.and_eq_true] at h
  have := inB_iff.1 h.1
  exact ⟨n.toNat, by omega, by omega⟩
theorem pgR_small (fs : List Flg) (n e : Int) : (pgR fs n e).length + lenSS (pgR fs n e) ≤ 100000 := by
  unfold pgR
  split
  · rename_i h
    obtain ⟨_, _, _, h3, h4, _⟩ := tk_ok h
    rw [matL_len, lenSS_matL]
    have : fs.length * fs.length ≤ 8 * 8 := Nat.mul_le_mul h4 h4
    omega
  · simp [lenSS]
theorem tk_famC {fs : List Flg} {va : Bool} {fr : Int} (h : tkC fs va true fr = 0) : famC fs = 0 := by
  obtain ⟨h1, _, _, h3, h4, h5, _⟩ := tk_ok h
  unfold famC
  rw [if_pos h1, if_neg (by omega), if_neg (by omega), if_pos h5]
def MatC (w : World) (R : List (List (Int × Int))) (c : Int) (e : Ending) (w' : World) : Prop := ∃ A cap F, e = .returned (.tuple #[.slice A R.length cap, .int .i64 c]) ∧ Own (shL shFr) w.heap.size w' R (.slice A R.length cap) F ∧ Below w.heap.size w w'
set_option maxHeartbeats 2000000 in
theorem PairAverages_any (w : World) (fs : List Flg) (n e : Int) (u : Value) (h : Lst shFlag w fs u) (hl : fs.length ≤ 1048576) (hgo : 0 ≤ e ∧ e ≤ 4294967295) :
    Calls Tryz.prog 25 #[u, .agg #[.int .i64 n, .int .u32 e]] w (MatC w (pgR fs n e) (pgC fs n e)) := by
  have HLS := Lib.hid h
  have HGO := Lib.hid hgo
  obtain ⟨A, cap, rfl, hcc, hm, hok, hel⟩ := lstFlag h
  unfold maxLen at hm
  have HOK := Lib.hid hok
  obtain ⟨C, hC⟩ : ∃ C, Hid (pgC fs n e = C) := ⟨_, Lib.hid rfl⟩
  obtain ⟨G, hG⟩ : ∃ G, Hid (grOk n e = G) := ⟨_, Lib.hid rfl⟩
  have HVG : Hid (∀ V, Calls Tryz.prog 81 #[.agg #[.int .i64 n, .int .u32 e]] V fun r w' => r = .returned (.bool G) ∧ Below V.heap.size V w') := Lib.hid fun V => by
    have := ValidGraph_any n e V hgo
    rw [hG.out] at this
    exact this
  have HTK : Hid (∀ V, Below w.heap.size w V → Calls Tryz.prog 80 #[.slice A fs.length cap, .bool G, .bool true, .int .i64 (IntKind.i64.wrap (n - (hdF fs).1))] V fun r w' => r = .returned (.int .i64 C) ∧ Below V.heap.size V w') := Lib.hid fun V hV => by
    have := tableOk_any V fs _ G true (IntKind.i64.wrap (n - (hdF fs).1)) (h.below hV) hl
    have e1 : tkC fs G true (IntKind.i64.wrap (n - (hdF fs).1)) = C := by
      rw [← hC.out]
      unfold pgC
      rw [hG.out]
      cases hb : flagsB fs && G
      · unfold tkC
        rw [hb]
        rfl
      · rw [Bool.and_eq_true] at hb
        obtain ⟨m, hm1, hm5⟩ := gr_n (hG.out.trans hb.2)
        have hhd : 0 ≤ (hdF fs).1 ∧ (hdF fs).1 ≤ 3 := by
          rcases Nat.eq_zero_or_pos fs.length with h0 | h0
          · have : fs = [] := List.length_eq_zero_iff.1 h0
            rw [this]
            exact ⟨by decide, by decide⟩
          · have hd : fs[0]? = some (fs[0]'h0) := List.getElem?_eq_getElem h0
            rw [hdF_eq hd]
            exact ((flV_iff _).1 (flagsB_iff.1 hb.1 _ (List.getElem_mem h0))).1
        have hw : IntKind.i64.wrap (n - (hdF fs).1) = n - (hdF fs).1 := by apply IntWalk.i64_in <;> omega
        rw [hw]
    rw [e1] at this
    exact this
  -- what the matrix is
  have HPA : Hid (C = 0 → ∃ (m : Nat), n = m ∧ m ≤ 5 ∧ pgR fs n e = matL fs.length fs.length (paD fs m e) ∧ ∀ V b g, Below w.heap.size w V → w.heap.size ≤ b → V.heap[b]? = some (.cells #[.bool g] 129 (0, 0)) →
      Calls Tryz.prog 83 #[.pointer (some ⟨b, 0, none⟩), .slice A fs.length cap, .agg #[.int .i64 m, .int .u32 e]] V fun r w' => ∃ A cap F, r = .returned (.slice A fs.length cap) ∧ Own (shL shFr) V.heap.size w' (matL fs.length fs.length (paD fs m e)) (.slice A fs.length cap) F ∧ Below V.heap.size V w') := Lib.hid fun hc => by
    have h0 : tkC fs (grOk n e) true (n - (hdF fs).1) = 0 := hC.out.trans hc
    obtain ⟨_, hg, _, _, _, _, h7⟩ := tk_ok h0
    obtain ⟨m, rfl, hm5⟩ := gr_n hg
    obtain ⟨k, q, hF, hk, hq⟩ := fam_ofC (tk_famC h0) hok
    refine ⟨m, rfl, hm5, ?_, fun V b g hV hb hbb => pairAverages_any V w b k q m e g fs _ hF hm5 (by rw [hk, hq] at h7; omega) HLS.out hV hb hbb⟩
    unfold pgR
    rw [if_pos (hC.out.trans hc)]
    rfl
  have HNO : Hid (C ≠ 0 → pgR fs n e = []) := Lib.hid fun hc => by unfold pgR; rw [hC.out, if_neg hc]
  have HHD : Hid (fs.length = 0 → (hdF fs).1 = 0) := Lib.hid fun h0 => by
    have : fs = [] := List.length_eq_zero_iff.1 h0
    rw [this]; rfl
  have HEL : Hid (0 < fs.length → ∃ bl off, A = some ⟨bl, off, none⟩ ∧ w.cell? ⟨bl, off, none⟩ = some (.int .i64 (hdF fs).1)) := Lib.hid fun h0 => by
    obtain ⟨bl, off, rfl, hel2⟩ := hel h0
    obtain ⟨d, hd, _, c0, _, _⟩ := hel2 0 h0
    rw [hdF_eq hd]
    exact ⟨bl, off, rfl, by simpa using c0⟩
  obtain ⟨HD, hHD⟩ : ∃ HD, Hid ((hdF fs).1 = HD) := ⟨_, Lib.hid rfl⟩
  obtain ⟨R, hR⟩ : ∃ R, Hid (pgR fs n e = R) := ⟨_, Lib.hid rfl⟩
  obtain ⟨N, hN⟩ : ∃ N, Hid (fs.length = N) := ⟨_, Lib.hid rfl⟩
  rw [hN.out, hHD.out] at HEL HHD
  rw [hN.out] at HTK HPA
  rw [hHD.out] at HTK
  rw [hR.out] at HPA HNO
  rw [hN.out] at hcc ⊢
  rw [hR.out, hC.out]
  clear hok hel h hgo
  go_enter Tryz.func25, Tryz.ntmps25
  rcases Nat.eq_zero_or_pos N with h0 | h0
  · have hh := HHD.out h0
    have h01 : ¬ (0 : Int) < (N : Int) := by omega
    subst hh
    rw [Int.sub_zero] at HTK
    clear h0
    go_wp2_with fail
    have HK4 : Hid (∀ V w' : World, Below V.heap.size V w' → (fun w' => w'.cell? ⟨w.heap.size, 0, none⟩ = some (.int .i64 n) ∧ w'.cell? ⟨w.heap.size, 1, none⟩ = some (.int .u32 e)) V → (fun w' => w'.cell? ⟨w.heap.size, 0, none⟩ = some (.int .i64 n) ∧ w'.cell? ⟨w.heap.size, 1, none⟩ = some (.int .u32 e)) w') := Lib.hid fun V w' hb h => by
      simp only at h ⊢
      exact ⟨bkeep hb h.1, bkeep hb h.2⟩
    (refine wp_region_held_drew (S := (fun w' => w'.cell? ⟨w.heap.size, 0, none⟩ = some (.int .i64 n) ∧ w'.cell? ⟨w.heap.size, 1, none⟩ = some (.int .u32 e))) (by kernel_rfl) ?_ (fun hHeld => ?_); (focus (first | exact hS | (simp [*, go_sem]; done) | fail)); refine rt 0 (some 16) (v := ?_) rfl rfl ?_ ?_; rotate_left; (focus (intro w' hSw; (try dsimp only at hSw); go_simp; (try with_reducible rfl))); (try simp only [Act.put, nA, nB, nC]); refine rt 1 (some 17) (v := ?_) rfl rfl ?_ ?_; rotate_left; (focus (intro w' hSw; (try dsimp only at hSw); go_simp; (try with_reducible rfl))); (try simp only [Act.put, nA, nB, nC]); refine rt 3 (some 19) (v := ?_) rfl rfl ?_ ?_; rotate_left; (focus (intro w' hSw; (try dsimp only at hSw); go_simp; (try with_reducible rfl))); (try simp only [Act.put, nA, nB, nC]); refine rt 4 (some 20) (v := ?_) rfl rfl ?_ ?_; rotate_left; (focus (intro w' hSw; (try dsimp only at hSw); go_simp; (try with_reducible rfl))); (try simp only [Act.put, nA, nB, nC]); refine rt 5 (some 21) (v := ?_) rfl rfl ?_ ?_; rotate_left; (focus (intro w' hSw; (try dsimp only at hSw); go_simp; (try with_reducible rfl))); (try simp only [Act.put, nA, nB, nC]); refine rt 6 (some 22) (v := ?_) rfl rfl ?_ ?_; rotate_left; (focus (intro w' hSw; (try dsimp only at hSw); go_simp; (try with_reducible rfl))); (try simp only [Act.put, nA, nB, nC]); refine wpAnyH_ready (rs := [2]) (by kernel_rfl) (by simp) ?_; refine AllReadyH.cons rfl (fun K hK => ?_) AllReadyH.nil; go_simp; (go_at_call 81; refine Calls.mono (HVG.out _) ?_; rintro e0 w2 ⟨rfl, hb⟩; have hS := HK4.out _ _ hb hHeld; have HB2 := Lib.hid (show Below w.heap.size w w2 from Below.trans belA (hb.mono (by simp))); have KG2 : Hid (w2.heap[w.heap.size]? = some (.cells #[.int .i64 n, .int .u32 e] 28 (0, 0))) := Lib.hid (bblk hb (by simp) (blkdrew (blknew w _))); clear hb); go_wp2_with fail; refine hK.out _ _ ?_ (fun hHeld => ?_); (focus (first | exact hS | (simp [*, go_sem]; done) | fail)); clear hK K; (try simp only [Act.put, nA, nB, nC]); refine wpAnyH_ready (rs := [7]) (by kernel_rfl) (by simp) ?_; refine AllReadyH.cons rfl (fun K hK => ?_) AllReadyH.nil; go_simp; (go_at_call 80; refine Calls.mono (HTK.out _ (show Below w.heap.size w _ from HB2.out)) ?_; rintro e0 w3 ⟨rfl, hb⟩; have hS := HK4.out _ _ hb hHeld; have HB3 := Lib.hid (HB2.out.trans (hb.mono HB2.out.size)); have KG3 := Lib.hid (bblk hb (blklt KG2.out) KG2.out); clear hb); go_wp2_with fail; refine hK.out _ _ ?_ (fun hHeld => ?_); (focus (first | exact hS | (simp [*, go_sem]; done) | fail)); clear hK K; (try simp only [Act.put, nA, nB, nC]); refine rt 8 (some 7) (v := ?_) rfl rfl ?_ ?_; rotate_left; (focus (intro w' hSw; (try dsimp only at hSw); go_simp; (try with_reducible rfl))); (try simp only [Act.put, nA, nB, nC]); refine wpAnyH_done (by kernel_rfl) ?_ _)
    clear hHeld
    by_cases hc : C = 0
    · obtain ⟨m, rfl, hm5, hRm, hpa⟩ := HPA.out hc
      have HPV := Lib.hid hpa
      have HRM := Lib.hid hRm
      have hc1 : (C != 0) = false := by simp [hc]
      subst hc
      have hb3 := HB3.out
      have hz3 := hb3.size
      have kg3 := KG3.out
      have yg3 := blklt kg3
      obtain ⟨p0, p1⟩ := blkc2 kg3
      clear hRm hpa
      go_wp2_with fail
      refine Calls.mono (HPV.out _ w3.heap.size false (show Below w.heap.size w _ from belA) (by omega) (blknew _ _)) ?_
      rintro e0 w4 ⟨A4, cap4, F4, rfl, hO4, hb4⟩
      have HO4 := Lib.hid (hO4.move (B' := w.heap.size) (by simp; omega) (fun _ _ _ => rfl))
      have HB4 := Lib.hid (show Below w.heap.size w w4 from Below.trans (bal hb3 (.cells #[.bool false] 129)) (hb4.mono (by simp; omega)))
      have ks := bblk hb4 (by simp) (blknew w3 _)
      obtain ⟨s0, _⟩ := blk1 ks
      have ys := blklt ks
      clear hO4 hb4
      go_wp2_with fail
      refine Calls.mono (toldMatrix_any w3.heap.size 0 false _ w4 ys s0) ?_
      rintro e0 w5 ⟨rfl, hb5⟩
      have HO5 := Lib.hid (HO4.out.below (Nat.le_refl _) hb5)
      have HB5 := Lib.hid (HB4.out.trans (hb5.mono HB4.out.size))
      clear hb5
      go_wp2_with fail
      refine bodyPost_ret (v := .tuple #[.slice A4 N cap4, .int .i64 0]) (by simp [results, Tryz.results25, go_sem]) rfl ?_
      have hlen : R.length = N := by rw [HRM.out, matL_len]
      refine ⟨A4, cap4, F4, by rw [hlen], ?_, HB5.out⟩
      rw [hlen, HRM.out]
      exact HO5.out
    · have hc1 : (C != 0) = true := by simp [hc]
      have hr := HNO.out hc
      subst hr
      clear hc
      have hb3 := HB3.out
      go_wp2_with fail
      exact bodyPost_ret (v := .tuple #[.slice none 0 0, .int .i64 C]) (by simp [results, Tryz.results25, go_sem]) rfl ⟨none, 0, [], rfl, Own.nil (shL shFr) _ _ 0 (Nat.zero_le _) _, hb3⟩
  · obtain ⟨bl, off, rfl, c0⟩ := HEL.out h0
    have zb := World.block_lt_of_cell? _ _ c0
    simp only at zb
    have h01 : (0 : Int) < (N : Int) := by omega
    go_wp2_with fail
    have HK4 : Hid (∀ V w' : World, Below V.heap.size V w' → (fun w' => w'.cell? ⟨w.heap.size, 0, none⟩ = some (.int .i64 n) ∧ w'.cell? ⟨w.heap.size, 1, none⟩ = some (.int .u32 e)) V → (fun w' => w'.cell? ⟨w.heap.size, 0, none⟩ = some (.int .i64 n) ∧ w'.cell? ⟨w.heap.size, 1, none⟩ = some (.int .u32 e)) w') := Lib.hid fun V w' hb h => by
      simp only at h ⊢
      exact ⟨bkeep hb h.1, bkeep hb h.2⟩
    (refine wp_region_held_drew (S := (fun w' => w'.cell? ⟨w.heap.size, 0, none⟩ = some (.int .i64 n) ∧ w'.cell? ⟨w.heap.size, 1, none⟩ = some (.int .u32 e))) (by kernel_rfl) ?_ (fun hHeld => ?_); (focus (first | exact hS | (simp [*, go_sem]; done) | fail)); refine rt 0 (some 16) (v := ?_) rfl rfl ?_ ?_; rotate_left; (focus (intro w' hSw; (try dsimp only at hSw); go_simp; (try with_reducible rfl))); (try simp only [Act.put, nA, nB, nC]); refine rt 1 (some 17) (v := ?_) rfl rfl ?_ ?_; rotate_left; (focus (intro w' hSw; (try dsimp only at hSw); go_simp; (try with_reducible rfl))); (try simp only [Act.put, nA, nB, nC]); refine rt 3 (some 19) (v := ?_) rfl rfl ?_ ?_; rotate_left; (focus (intro w' hSw; (try dsimp only at hSw); go_simp; (try with_reducible rfl))); (try simp only [Act.put, nA, nB, nC]); refine rt 4 (some 20) (v := ?_) rfl rfl ?_ ?_; rotate_left; (focus (intro w' hSw; (try dsimp only at hSw); go_simp; (try with_reducible rfl))); (try simp only [Act.put, nA, nB, nC]); refine rt 5 (some 21) (v := ?_) rfl rfl ?_ ?_; rotate_left; (focus (intro w' hSw; (try dsimp only at hSw); go_simp; (try with_reducible rfl))); (try simp only [Act.put, nA, nB, nC]); refine rt 6 (some 22) (v := ?_) rfl rfl ?_ ?_; rotate_left; (focus (intro w' hSw; (try dsimp only at hSw); go_simp; (try with_reducible rfl))); (try simp only [Act.put, nA, nB, nC]); refine wpAnyH_ready (rs := [2]) (by kernel_rfl) (by simp) ?_; refine AllReadyH.cons rfl (fun K hK => ?_) AllReadyH.nil; go_simp; (go_at_call 81; refine Calls.mono (HVG.out _) ?_; rintro e0 w2 ⟨rfl, hb⟩; have hS := HK4.out _ _ hb hHeld; have HB2 := Lib.hid (show Below w.heap.size w w2 from Below.trans belA (hb.mono (by simp))); have KG2 : Hid (w2.heap[w.heap.size]? = some (.cells #[.int .i64 n, .int .u32 e] 28 (0, 0))) := Lib.hid (bblk hb (by simp) (blkdrew (blknew w _))); clear hb); go_wp2_with fail; refine hK.out _ _ ?_ (fun hHeld => ?_); (focus (first | exact hS | (simp [*, go_sem]; done) | fail)); clear hK K; (try simp only [Act.put, nA, nB, nC]); refine wpAnyH_ready (rs := [7]) (by kernel_rfl) (by simp) ?_; refine AllReadyH.cons rfl (fun K hK => ?_) AllReadyH.nil; go_simp; (go_at_call 80; refine Calls.mono (HTK.out _ (show Below w.heap.size w _ from HB2.out)) ?_; rintro e0 w3 ⟨rfl, hb⟩; have hS := HK4.out _ _ hb hHeld; have HB3 := Lib.hid (HB2.out.trans (hb.mono HB2.out.size)); have KG3 := Lib.hid (bblk hb (blklt KG2.out) KG2.out); clear hb); go_wp2_with fail; refine hK.out _ _ ?_ (fun hHeld => ?_); (focus (first | exact hS | (simp [*, go_sem]; done) | fail)); clear hK K; (try simp only [Act.put, nA, nB, nC]); refine rt 8 (some 7) (v := ?_) rfl rfl ?_ ?_; rotate_left; (focus (intro w' hSw; (try dsimp only at hSw); go_simp; (try with_reducible rfl))); (try simp only [Act.put, nA, nB, nC]); refine wpAnyH_done (by kernel_rfl) ?_ _)
    clear hHeld
    by_cases hc : C = 0
    · obtain ⟨m, rfl, hm5, hRm, hpa⟩ := HPA.out hc
      have HPV := Lib.hid hpa
      have HRM := Lib.hid hRm
      have hc1 : (C != 0) = false := by simp [hc]
      subst hc
      have hb3 := HB3.out
      have hz3 := hb3.size
      have kg3 := KG3.out
      have yg3 := blklt kg3
      obtain ⟨p0, p1⟩ := blkc2 kg3
      clear hRm hpa
      go_wp2_with fail
      refine Calls.mono (HPV.out _ w3.heap.size false (show Below w.heap.size w _ from belA) (by omega) (blknew _ _)) ?_
      rintro e0 w4 ⟨A4, cap4, F4, rfl, hO4, hb4⟩
      have HO4 := Lib.hid (hO4.move (B' := w.heap.size) (by simp; omega) (fun _ _ _ => rfl))
      have HB4 := Lib.hid (show Below w.heap.size w w4 from Below.trans (bal hb3 (.cells #[.bool false] 129)) (hb4.mono (by simp; omega)))
      have ks := bblk hb4 (by simp) (blknew w3 _)
      obtain ⟨s0, _⟩ := blk1 ks
      have ys := blklt ks
      clear hO4 hb4
      go_wp2_with fail
      refine Calls.mono (toldMatrix_any w3.heap.size 0 false _ w4 ys s0) ?_
      rintro e0 w5 ⟨rfl, hb5⟩
      have HO5 := Lib.hid (HO4.out.below (Nat.le_refl _) hb5)
      have HB5 := Lib.hid (HB4.out.trans (hb5.mono HB4.out.size))
      clear hb5
      go_wp2_with fail
      refine bodyPost_ret (v := .tuple #[.slice A4 N cap4, .int .i64 0]) (by simp [results, Tryz.results25, go_sem]) rfl ?_
      have hlen : R.length = N := by rw [HRM.out, matL_len]
      refine ⟨A4, cap4, F4, by rw [hlen], ?_, HB5.out⟩
      rw [hlen, HRM.out]
      exact HO5.out
    · have hc1 : (C != 0) = true := by simp [hc]
      have hr := HNO.out hc
      subst hr
      clear hc
      have hb3 := HB3.out
      go_wp2_with fail
      exact bodyPost_ret (v := .tuple #[.slice none 0 0, .int .i64 C]) (by simp [results, Tryz.results25, go_sem]) rfl ⟨none, 0, [], rfl, Own.nil (shL shFr) _ _ 0 (Nat.zero_le _) _, hb3⟩
set_option maxHeartbeats 2000000 in
theorem sPairAverages_any (w : World) (fs : List Flg) (n e : Int) (u : Value) (h : Lst shFlag w fs u) (hgo : 0 ≤ e ∧ e ≤ 4294967295) :
    Calls Tryz.prog 23 #[u, .agg #[.int .i64 n, .int .u32 e]] w (MatC w (pgR fs n e) (pgC fs n e)) := by
  have HLS := Lib.hid h
  have HGO := Lib.hid hgo
  obtain ⟨A, cap, rfl, hcc, hm, hok, hel⟩ := lstFlag h
  unfold maxLen at hm
  have HOK := Lib.hid hok
  have HEL := Lib.hid hel
  clear hok hel h
  cases hv : grOk n e
  · have hc : Hid (pgC fs n e = 1) := Lib.hid (by unfold pgC tkC; rw [hv, Bool.and_false]; rfl)
    have hr : Hid (pgR fs n e = []) := Lib.hid (by unfold pgR; rw [hc.out]; rfl)
    have HV := Lib.hid hv
    clear hv hgo
    go_enter Tryz.func23, Tryz.ntmps23
    go_wp2_with (first | (go_at_call 77; refine Calls.mono (l01Ok_any n e _ HGO.out) ?_; rw [HV.out]; rintro e w1 ⟨rfl, hb⟩; obtain ⟨X, m, rfl⟩ := plsOf hb; clear hb))
    refine bodyPost_ret (v := .tuple #[.slice (some ⟨_, 0, none⟩) 0 0, .int .i64 1]) (by simp [results, Tryz.results23, go_sem] <;> rfl) rfl ?_
    rw [hr.out, hc.out]
    exact ⟨_, 0, [], rfl, Own.nil (shL shFr) _ _ 0 (Nat.zero_le _) _, belA⟩
  have HV := Lib.hid hv
  have hpf := pg_fam (fs := fs) (n := n) (e := e) hv
  obtain ⟨nG, rfl, hm5⟩ := gr_n hv
  obtain ⟨c, hcf⟩ : ∃ c, famC fs = c := ⟨_, rfl⟩
  have HFC := Lib.hid hcf
  rw [hcf] at hpf
  by_cases hcn : c = 0
  rotate_left
  · rw [if_neg hcn] at hpf
    have hc := Lib.hid hpf
    have hr : Hid (pgR fs nG e = []) := Lib.hid (by unfold pgR; rw [hpf, if_neg hcn])
    have hcb : (c != 0) = true := by simpa using hcn
    have hcb2 : (c == 0) = false := by simpa using hcn
    clear hv hgo hpf hcf hcn
    go_enter Tryz.func23, Tryz.ntmps23
    go_wp2_with (first | (go_at_call 77; refine Calls.mono (l01Ok_any nG e _ HGO.out) ?_; rw [HV.out]; rintro e w1 ⟨rfl, hb⟩; obtain ⟨X, m, rfl⟩ := plsOf hb; clear hb) | (go_at_call 56; refine Calls.mono (l04Family_any _ fs _ (HLS.out.below belA)) ?_; rw [HFC.out]; rintro e w1 ⟨rfl, hb⟩; obtain ⟨X, m, rfl⟩ := plsOf hb; clear hb))
    go_region
    all_goals (go_wp2_with fail)
    all_goals (
      refine bodyPost_ret (v := .tuple #[.slice (some ⟨_, 0, none⟩) 0 0, .int .i64 c]) (by simp [results, Tryz.results23, go_sem] <;> rfl) rfl ?_
      rw [hr.out, hc.out]
      exact ⟨_, 0, [], rfl, Own.nil (shL shFr) _ _ 0 (Nat.zero_le _) _, belA⟩)
  subst hcn
  rw [if_pos rfl] at hpf
  obtain ⟨hfl, h000⟩ : flagsB fs = true ∧ 0 < fs.length := by
    have := hcf
    unfold famC at this
    split at this
    · rename_i h1
      refine ⟨h1, ?_⟩
      split at this
      · cases this
      · split at this
        · cases this
        · omega
    · cases this
  obtain ⟨k, q, hFam, hk, hq⟩ := fam_ofC hcf HOK.out
  have h00 : (0 : Int) < (fs.length : Int) := by omega
  obtain ⟨bl, off, rfl, hel⟩ := HEL.out h000
  obtain ⟨d, hd, hdo, c0, c1, c2⟩ := hel 0 h000
  simp only [Nat.zero_mul, Nat.add_zero] at c0 c1 c2
  have hhd : hdF fs = d := hdF_eq hd
  rw [hhd] at hpf hk hq
  have hk3 := hFam.2.2.1
  have hdv := (flV_iff _).1 (flagsB_iff.1 hfl d (List.mem_of_getElem? hd))
  have zb := World.block_lt_of_cell? _ _ c0
  simp only at zb
  have hd5 : 0 ≤ d.1 ∧ d.1 ≤ 5 := by omega
  have hd52 : 0 ≤ d.2.1 ∧ d.2.1 ≤ 5 := by omega
  obtain ⟨xd, hxd⟩ : ∃ x, Hid (d.2.1 - d.1 = x) := ⟨_, Lib.hid rfl⟩
  have hxq : xd = q := by rw [← hxd.out, hk, hq]; omega
  rw [hxd.out] at hpf
  have hxd5 : -5 ≤ xd ∧ xd ≤ 5 := by have := hxd.out; omega
  have HKP : Hid (∀ V w' : World, Below V.heap.size V w' → (fun w' => w'.cell? ⟨w.heap.size, 0, none⟩ = some (.int .i64 (nG : Int)) ∧ w'.cell? ⟨w.heap.size, 1, none⟩ = some (.int .u32 e) ∧ w'.cell? ⟨bl, off, none⟩ = some (.int .i64 d.1) ∧ w'.cell? ⟨bl, off + 1, none⟩ = some (.int .i64 d.2.1) ∧ w'.cell? ⟨bl, off + 2, none⟩ = some (.int .u32 d.2.2)) V → (fun w' => w'.cell? ⟨w.heap.size, 0, none⟩ = some (.int .i64 (nG : Int)) ∧ w'.cell? ⟨w.heap.size, 1, none⟩ = some (.int .u32 e) ∧ w'.cell? ⟨bl, off, none⟩ = some (.int .i64 d.1) ∧ w'.cell? ⟨bl, off + 1, none⟩ = some (.int .i64 d.2.1) ∧ w'.cell? ⟨bl, off + 2, none⟩ = some (.int .u32 d.2.2)) w') := Lib.hid fun V w' hb h => ⟨bkeep hb h.1, bkeep hb h.2.1, bkeep hb h.2.2.1, bkeep hb h.2.2.2.1, bkeep hb h.2.2.2.2⟩
  by_cases hlt : (nG : Int) - d.1 < 2 * xd
  · have hc : Hid (pgC fs nG e = 2) := Lib.hid (by rw [hpf, if_pos hlt])
    have hr : Hid (pgR fs nG e = []) := Lib.hid (by unfold pgR; rw [hc.out]; rfl)
    clear hv hgo hpf hcf hfl hhd hdv hd hdo hel hFam hk hq hxq
    go_enter Tryz.func23, Tryz.ntmps23
    go_wp2_with (first | (go_at_call 77; refine Calls.mono (l01Ok_any nG e _ HGO.out) ?_; rw [HV.out]; rintro e w1 ⟨rfl, hb⟩; obtain ⟨X, m, rfl⟩ := plsOf hb; clear hb))
    refine Calls.mono (l04Family_any _ fs _ (HLS.out.below belA)) ?_
    rw [HFC.out]
    rintro e0 w4 ⟨rfl, hb⟩
    have HB4 := Lib.hid (show Below w.heap.size w w4 from Below.trans belA (hb.mono (by simp <;> omega)))
    have kg4 : w4.heap[w.heap.size]? = some (.cells #[.int .i64 nG, .int .u32 e] 28 (0, 0)) := bblk hb (by simp <;> omega) blkA
    obtain ⟨t1, t2⟩ := blkc2 kg4
    have v0 := blklt kg4
    have hb4 := HB4.out
    clear hb
    go_wp2_with fail
    have c10 := bkeep HB4.out c0
    have c11 := bkeep HB4.out c1
    have c12 := bkeep HB4.out c2
    (refine wp_region_held_drew (S := (fun w' => w'.cell? ⟨w.heap.size, 0, none⟩ = some (.int .i64 (nG : Int)) ∧ w'.cell? ⟨w.heap.size, 1, none⟩ = some (.int .u32 e) ∧ w'.cell? ⟨bl, off, none⟩ = some (.int .i64 d.1) ∧ w'.cell? ⟨bl, off + 1, none⟩ = some (.int .i64 d.2.1) ∧ w'.cell? ⟨bl, off + 2, none⟩ = some (.int .u32 d.2.2))) (by kernel_rfl) ?_ (fun hHeld => ?_); (focus (first | exact hS | (simp [*, go_sem]; done) | fail)); refine rt 0 (some 13) (v := ?_) rfl rfl ?_ ?_; rotate_left; (focus (intro w' hSw; (try dsimp only at hSw); go_simp; (try with_reducible rfl))); (try simp only [Act.put, nA, nB, nC]); refine rt 1 (some 14) (v := ?_) rfl rfl ?_ ?_; rotate_left; (focus (intro w' hSw; (try dsimp only at hSw); go_simp; (try with_reducible rfl))); (try simp only [Act.put, nA, nB, nC]); refine rt 2 (some 15) (v := ?_) rfl rfl ?_ ?_; rotate_left; (focus (intro w' hSw; (try dsimp only at hSw); go_simp; (try with_reducible rfl))); (try simp only [Act.put, nA, nB, nC]); refine rt 3 (some 16) (v := ?_) rfl rfl ?_ ?_; rotate_left; (focus (intro w' hSw; (try dsimp only at hSw); go_simp; (try with_reducible rfl))); (try simp only [Act.put, nA, nB, nC]); refine rt 4 (some 17) (v := ?_) rfl rfl ?_ ?_; rotate_left; (focus (intro w' hSw; (try dsimp only at hSw); go_simp; (try with_reducible rfl))); (try simp only [Act.put, nA, nB, nC]); refine rt 5 (some 18) (v := ?_) rfl rfl ?_ ?_; rotate_left; (focus (intro w' hSw; (try dsimp only at hSw); go_simp; (try with_reducible rfl))); (try simp only [Act.put, nA, nB, nC]); refine rt 8 (some 21) (v := ?_) rfl rfl ?_ ?_; rotate_left; (focus (intro w' hSw; (try dsimp only at hSw); go_simp; (try with_reducible rfl))); (try simp only [Act.put, nA, nB, nC]); refine rt 9 (some 22) (v := ?_) rfl rfl ?_ ?_; rotate_left; (focus (intro w' hSw; (try dsimp only at hSw); go_simp; (try with_reducible rfl))); (try simp only [Act.put, nA, nB, nC]); refine rt 10 (some 23) (v := ?_) rfl rfl ?_ ?_; rotate_left; (focus (intro w' hSw; (try dsimp only at hSw); go_simp; (try with_reducible rfl))); (try simp only [Act.put, nA, nB, nC]); refine rt 11 (some 24) (v := ?_) rfl rfl ?_ ?_; rotate_left; (focus (intro w' hSw; (try dsimp only at hSw); go_simp; (try with_reducible rfl))); (try simp only [Act.put, nA, nB, nC]); refine rt 12 (some 25) (v := ?_) rfl rfl ?_ ?_; rotate_left; (focus (intro w' hSw; (try dsimp only at hSw); go_simp; (try with_reducible rfl))); (try simp only [Act.put, nA, nB, nC]); refine rt 13 (some 26) (v := ?_) rfl rfl ?_ ?_; rotate_left; (focus (intro w' hSw; (try dsimp only at hSw); go_simp; (try with_reducible rfl))); (try simp only [Act.put, nA, nB, nC]); refine rt 14 (some 27) (v := ?_) rfl rfl ?_ ?_; rotate_left; (focus (intro w' hSw; (try dsimp only at hSw); go_simp; (try with_reducible rfl))); (try simp only [Act.put, nA, nB, nC]); refine wpAnyH_ready (rs := [6]) (by kernel_rfl) (by simp) ?_; refine AllReadyH.cons rfl (fun K hK => ?_) AllReadyH.nil; go_simp; (go_at_call 78; refine Calls.mono (l04Free_any _ d hd5 hd52) ?_; rw [hxd.out]; rintro e0 w7 ⟨rfl, hb⟩; have hS := HKP.out _ _ hb hHeld; have hb4 := HB4.out; have HB7 := Lib.hid (show Below w.heap.size w w7 from Below.trans belA (hb.mono (by have := hb4.size; simp <;> omega))); have KG7 : Hid (w7.heap[w.heap.size]? = some (.cells #[.int .i64 nG, .int .u32 e] 28 (0, 0))) := Lib.hid (bblk hb (by simp <;> omega) (blkdrew kg4)); have v3 := World.block_lt_of_cell? _ _ hS.1; have v4 := World.block_lt_of_cell? _ _ hS.2.2.1; simp only at v3 v4; clear hb hb4); go_wp2_with fail; refine hK.out _ _ ?_ (fun hHeld => ?_); (focus (first | exact hS | (simp [*, go_sem]; done) | fail)); clear hK K; (try simp only [Act.put, nA, nB, nC]); refine rt 7 (some 20) (v := ?_) rfl rfl ?_ ?_; rotate_left; (focus (intro w' hSw; (try dsimp only at hSw); go_simp; (try with_reducible rfl))); (try simp only [Act.put, nA, nB, nC]); refine rt 15 (some 28) (v := ?_) rfl rfl ?_ ?_; rotate_left; (focus (intro w' hSw; (try dsimp only at hSw); go_simp; (try with_reducible rfl))); (try simp only [Act.put, nA, nB, nC]); refine rt 16 (some 29) (v := ?_) rfl rfl ?_ ?_; rotate_left; (focus (intro w' hSw; (try dsimp only at hSw); go_simp; (try with_reducible rfl))); (try simp only [Act.put, nA, nB, nC]); refine wpAnyH_done (by kernel_rfl) ?_ _)
    obtain ⟨s1, s2, s3, s4, s5⟩ := hHeld
    have hb7 := HB7.out
    have kg7 := KG7.out
    have hwr : IntKind.i64.wrap (2 * xd) = 2 * xd := IntWalk.i64_in _ (by omega)
    have hwm : IntKind.i64.wrap ((nG : Int) - d.1) = (nG : Int) - d.1 := IntWalk.i64_in _ (by omega)
    clear hb4 kg4
    go_wp2_with fail
    refine bodyPost_ret (v := .tuple #[.slice (some ⟨_, 0, none⟩) 0 0, .int .i64 2]) (by simp [results, Tryz.results23, go_sem] <;> rfl) rfl ?_
    rw [hr.out, hc.out]
    exact ⟨_, 0, [], rfl, Own.nil (shL shFr) _ _ 0 (Nat.zero_le _) _, belA⟩
  have hc : Hid (pgC fs nG e = 0) := Lib.hid (by rw [hpf, if_neg hlt])
  have hr : Hid (pgR fs nG e = matL fs.length fs.length (paD fs nG e)) := Lib.hid (by unfold pgR; rw [hc.out, if_pos rfl]; rfl)
  have HAV : Hid (∀ V, Below w.heap.size w V → Calls Tryz.prog 79 #[.slice (some ⟨bl, off, none⟩) fs.length cap, .agg #[.int .i64 nG, .int .u32 e]] V fun r w' => ∃ A cap F, r = .returned (.slice A fs.length cap) ∧ Own (shL shFr) V.heap.size w' (matL fs.length fs.length (paD fs nG e)) (.slice A fs.length cap) F ∧ Below V.heap.size V w') := Lib.hid fun V hV => l04Averages_any V k q nG e fs _ hFam hm5 (by omega) (HLS.out.below hV) HGO.out
  clear hv hgo hpf hcf hfl hhd hdv hd hdo hel hFam hk hq hxq
  go_enter Tryz.func23, Tryz.ntmps23
  go_wp2_with (first | (go_at_call 77; refine Calls.mono (l01Ok_any nG e _ HGO.out) ?_; rw [HV.out]; rintro e w1 ⟨rfl, hb⟩; obtain ⟨X, m, rfl⟩ := plsOf hb; clear hb))
  refine Calls.mono (l04Family_any _ fs _ (HLS.out.below belA)) ?_
  rw [HFC.out]
  rintro e0 w4 ⟨rfl, hb⟩
  have HB4 := Lib.hid (show Below w.heap.size w w4 from Below.trans belA (hb.mono (by simp <;> omega)))
  have kg4 : w4.heap[w.heap.size]? = some (.cells #[.int .i64 nG, .int .u32 e] 28 (0, 0)) := bblk hb (by simp <;> omega) blkA
  obtain ⟨t1, t2⟩ := blkc2 kg4
  have v0 := blklt kg4
  have hb4 := HB4.out
  clear hb
  go_wp2_with fail
  have c10 := bkeep HB4.out c0
  have c11 := bkeep HB4.out c1
  have c12 := bkeep HB4.out c2
  (refine wp_region_held_drew (S := (fun w' => w'.cell? ⟨w.heap.size, 0, none⟩ = some (.int .i64 (nG : Int)) ∧ w'.cell? ⟨w.heap.size, 1, none⟩ = some (.int .u32 e) ∧ w'.cell? ⟨bl, off, none⟩ = some (.int .i64 d.1) ∧ w'.cell? ⟨bl, off + 1, none⟩ = some (.int .i64 d.2.1) ∧ w'.cell? ⟨bl, off + 2, none⟩ = some (.int .u32 d.2.2))) (by kernel_rfl) ?_ (fun hHeld => ?_); (focus (first | exact hS | (simp [*, go_sem]; done) | fail)); refine rt 0 (some 13) (v := ?_) rfl rfl ?_ ?_; rotate_left; (focus (intro w' hSw; (try dsimp only at hSw); go_simp; (try with_reducible rfl))); (try simp only [Act.put, nA, nB, nC]); refine rt 1 (some 14) (v := ?_) rfl rfl ?_ ?_; rotate_left; (focus (intro w' hSw; (try dsimp only at hSw); go_simp; (try with_reducible rfl))); (try simp only [Act.put, nA, nB, nC]); refine rt 2 (some 15) (v := ?_) rfl rfl ?_ ?_; rotate_left; (focus (intro w' hSw; (try dsimp only at hSw); go_simp; (try with_reducible rfl))); (try simp only [Act.put, nA, nB, nC]); refine rt 3 (some 16) (v := ?_) rfl rfl ?_ ?_; rotate_left; (focus (intro w' hSw; (try dsimp only at hSw); go_simp; (try with_reducible rfl))); (try simp only [Act.put, nA, nB, nC]); refine rt 4 (some 17) (v := ?_) rfl rfl ?_ ?_; rotate_left; (focus (intro w' hSw; (try dsimp only at hSw); go_simp; (try with_reducible rfl))); (try simp only [Act.put, nA, nB, nC]); refine rt 5 (some 18) (v := ?_) rfl rfl ?_ ?_; rotate_left; (focus (intro w' hSw; (try dsimp only at hSw); go_simp; (try with_reducible rfl))); (try simp only [Act.put, nA, nB, nC]); refine rt 8 (some 21) (v := ?_) rfl rfl ?_ ?_; rotate_left; (focus (intro w' hSw; (try dsimp only at hSw); go_simp; (try with_reducible rfl))); (try simp only [Act.put, nA, nB, nC]); refine rt 9 (some 22) (v := ?_) rfl rfl ?_ ?_; rotate_left; (focus (intro w' hSw; (try dsimp only at hSw); go_simp; (try with_reducible rfl))); (try simp only [Act.put, nA, nB, nC]); refine rt 10 (some 23) (v := ?_) rfl rfl ?_ ?_; rotate_left; (focus (intro w' hSw; (try dsimp only at hSw); go_simp; (try with_reducible rfl))); (try simp only [Act.put, nA, nB, nC]); refine rt 11 (some 24) (v := ?_) rfl rfl ?_ ?_; rotate_left; (focus (intro w' hSw; (try dsimp only at hSw); go_simp; (try with_reducible rfl))); (try simp only [Act.put, nA, nB, nC]); refine rt 12 (some 25) (v := ?_) rfl rfl ?_ ?_; rotate_left; (focus (intro w' hSw; (try dsimp only at hSw); go_simp; (try with_reducible rfl))); (try simp only [Act.put, nA, nB, nC]); refine rt 13 (some 26) (v := ?_) rfl rfl ?_ ?_; rotate_left; (focus (intro w' hSw; (try dsimp only at hSw); go_simp; (try with_reducible rfl))); (try simp only [Act.put, nA, nB, nC]); refine rt 14 (some 27) (v := ?_) rfl rfl ?_ ?_; rotate_left; (focus (intro w' hSw; (try dsimp only at hSw); go_simp; (try with_reducible rfl))); (try simp only [Act.put, nA, nB, nC]); refine wpAnyH_ready (rs := [6]) (by kernel_rfl) (by simp) ?_; refine AllReadyH.cons rfl (fun K hK => ?_) AllReadyH.nil; go_simp; (go_at_call 78; refine Calls.mono (l04Free_any _ d hd5 hd52) ?_; rw [hxd.out]; rintro e0 w7 ⟨rfl, hb⟩; have hS := HKP.out _ _ hb hHeld; have hb4 := HB4.out; have HB7 := Lib.hid (show Below w.heap.size w w7 from Below.trans belA (hb.mono (by have := hb4.size; simp <;> omega))); have KG7 : Hid (w7.heap[w.heap.size]? = some (.cells #[.int .i64 nG, .int .u32 e] 28 (0, 0))) := Lib.hid (bblk hb (by simp <;> omega) (blkdrew kg4)); have v3 := World.block_lt_of_cell? _ _ hS.1; have v4 := World.block_lt_of_cell? _ _ hS.2.2.1; simp only at v3 v4; clear hb hb4); go_wp2_with fail; refine hK.out _ _ ?_ (fun hHeld => ?_); (focus (first | exact hS | (simp [*, go_sem]; done) | fail)); clear hK K; (try simp only [Act.put, nA, nB, nC]); refine rt 7 (some 20) (v := ?_) rfl rfl ?_ ?_; rotate_left; (focus (intro w' hSw; (try dsimp only at hSw); go_simp; (try with_reducible rfl))); (try simp only [Act.put, nA, nB, nC]); refine rt 15 (some 28) (v := ?_) rfl rfl ?_ ?_; rotate_left; (focus (intro w' hSw; (try dsimp only at hSw); go_simp; (try with_reducible rfl))); (try simp only [Act.put, nA, nB, nC]); refine rt 16 (some 29) (v := ?_) rfl rfl ?_ ?_; rotate_left; (focus (intro w' hSw; (try dsimp only at hSw); go_simp; (try with_reducible rfl))); (try simp only [Act.put, nA, nB, nC]); refine wpAnyH_done (by kernel_rfl) ?_ _)
  obtain ⟨s1, s2, s3, s4, s5⟩ := hHeld
  have hb7 := HB7.out
  have kg7 := KG7.out
  have hwr : IntKind.i64.wrap (2 * xd) = 2 * xd := IntWalk.i64_in _ (by omega)
  have hwm : IntKind.i64.wrap ((nG : Int) - d.1) = (nG : Int) - d.1 := IntWalk.i64_in _ (by omega)
  clear hb4 kg4
  go_wp2_with fail
  refine Calls.mono (HAV.out _ (show Below w.heap.size w _ from belA)) ?_
  rintro e0 w9 ⟨A9, cap9, F9, rfl, hO, hb⟩
  have HO := Lib.hid hO
  have HB9 := Lib.hid (show Below w.heap.size w w9 from Below.trans belA (hb.mono (by have := hb7.size; simp <;> omega)))
  have hz8 := hb7.size
  clear hO hb hb7
  go_wp2_with fail
  refine bodyPost_ret (v := .tuple #[.slice A9 fs.length cap9, .int .i64 0]) (by simp [results, Tryz.results23, go_sem]) rfl ?_
  rw [hr.out, hc.out]
  refine ⟨A9, cap9, F9, by rw [matL_len], ?_, HB9.out⟩
  rw [matL_len]
  exact HO.out.below (by first | exact hz8 | (simp <;> omega)) (Below.refl _ _)
end Go.Proofs.YtekchdgpaemofaaGreat

import Derived.Deep.DeepCutAuto
import Derived.Test.YtekchdgpaemofaaGreatYyJb
import Derived.Test.YtekchdgpaemofaaGreatYyJd
namespace Go.Proofs.YtekchdgpaemofaaGreat
open Go.ChangeShapes Go.WideShapes Go.RowKit
set_option linter.unusedVariables false
set_option linter.unusedSimpArgs false
attribute [local irreducible] Calls
theorem Chg.blkj {F : List Nat} {w w' : World} (h : Chg F w w') {b : Nat} (hb : b ∉ F) {x : Obj} (hx : w.heap[b]? = some x) : w'.heap[b]? = some x := (h.2.2.2.2 b (blklt hx) hb).trans hx
theorem joint11 (W : World) (b0 : Nat) (L : List Int) (v : Value) (d : Int) (hb : W.heap[b0]? = some (.cells #[v] 168 (0, 0))) (hv : Lst (shI .i64) W L v) (hl : L.length ≤ 100) :
    Calls Tryz.prog 230 #[.int .i64 d, .pointer (some ⟨b0, 0, none⟩)] W fun e0 W' => e0 = .returned (.bool (memB L d)) ∧ Below W.heap.size W W' := by
  have c0 := blkc1 hb
  have y0 := blklt hb
  have HV := Lib.hid hv
  obtain ⟨A, cap, rfl, _, _⟩ := lstI hv
  clear hv hb
  go_enter Tryz.func230, Tryz.ntmps230
  go_wp2_with (first | (go_at_call 231; refine Calls.mono (hasI_any _ L _ d (HV.out.below belA) hl) ?_; rintro e w1 ⟨rfl, hb⟩; obtain ⟨X, m, rfl⟩ := plsOf hb; clear hb))
  exact bodyPost_ret (v := .bool (memB L d)) (by simp [results, Tryz.results230, go_sem]) rfl ⟨rfl, belA⟩
set_option maxHeartbeats 2000000 in
theorem joint1 (W : World) (bg bf bh ba bm k n q2 : Nat) (e : Int) (f h : Flg) (s : Int × Int) (L : List Int) (v : Value) (hV : VL (seqI k ++ L)) (hl : k + L.length = f.2.1.toNat) (hk : k ≤ 3) (hkn : k ≤ n) (hn : n ≤ 5)
    (hf : flV f = true) (hfo : okFlag f) (hfk : f.1 = k) (hh : flV h = true) (hho : okFlag h) (hhk : h.1 = k) (hq : h.2.1 = ((k + q2 : Nat) : Int)) (hok : ∀ L2 ∈ chs (leftI k n L) q2 0 [], VL (seqI k ++ L2) ∧ L2.length = q2)
    (jg : W.heap[bg]? = some (.cells #[.int .i64 k, .int .i64 n, .int .u32 e] 104 (0, 0))) (jf : W.heap[bf]? = some (.cells #[.int .i64 f.1, .int .i64 f.2.1, .int .u32 f.2.2] 104 (0, 0))) (jh : W.heap[bh]? = some (.cells #[.int .i64 h.1, .int .i64 h.2.1, .int .u32 h.2.2] 104 (0, 0))) (ja : W.heap[ba]? = some (.cells #[.int .i64 s.2] 2 (0, 0))) (jm : W.heap[bm]? = some (.cells #[.int .i64 s.1] 2 (0, 0)))
    (d1 : bg ≠ ba ∧ bg ≠ bm) (d2 : bf ≠ ba ∧ bf ≠ bm) (d3 : bh ≠ ba ∧ bh ≠ bm) (d4 : bm ≠ ba) (hv : Lst (shI .i64) W L v) :
    Calls Tryz.prog 226 #[v, .pointer (some ⟨bg, 0, none⟩), .pointer (some ⟨bf, 0, none⟩), .pointer (some ⟨bh, 0, none⟩), .pointer (some ⟨ba, 0, none⟩), .pointer (some ⟨bm, 0, none⟩)] W fun e0 W' => e0 = .returned (.tuple #[]) ∧
      (W'.heap[ba]? = some (.cells #[.int .i64 (jnOut (ptB k e f) (ptB k e h) k n q2 s L).2] 2 (0, 0)) ∧ W'.heap[bm]? = some (.cells #[.int .i64 (jnOut (ptB k e f) (ptB k e h) k n q2 s L).1] 2 (0, 0))) ∧ Chg [ba, bm] W W' := by
  have hfl := (flV_iff _).1 hf
  obtain ⟨m, hm2⟩ := Int.eq_ofNat_of_zero_le hfl.2.1.1
  have hlm : k + L.length = m := by rw [hl, hm2]; rfl
  have hlen : (seqI k ++ L).length = m := by rw [List.length_append, seqI_len]; exact hlm
  have hm5 : m ≤ 5 := by rw [← hlen]; exact hV.1
  have hlt := onE_lt e hV.1
  rw [hlen] at hlt
  have hx : Hid (flV ((k : Int), ((m : Int), onE e (seqI k ++ L))) = true) := Lib.hid ((flV_iff _).2 ⟨⟨by show (0 : Int) ≤ k; omega, by show (k : Int) ≤ 3; omega⟩, ⟨by show (0 : Int) ≤ m; omega, by show (m : Int) ≤ 5; omega⟩, by show (k : Int) ≤ m; omega, hlt.2⟩)
  have hxo : Hid (okFlag ((k : Int), ((m : Int), onE e (seqI k ++ L)))) := Lib.hid ⟨okN (by omega), okN (by omega), onE_ok _ _⟩
  obtain ⟨P, hP⟩ : ∃ P, Hid (ptB k e f L = P) := ⟨_, Lib.hid rfl⟩
  have hpt : Hid (fAlike ((k : Int), ((m : Int), onE e (seqI k ++ L))) f = P) := Lib.hid (by
    rw [← hP.out]
    unfold fAlike ptB
    rw [hm2, hfk]
    simp [leastF])
  obtain ⟨R, hR⟩ : ∃ R, Hid ((chs (leftI k n L) q2 0 []).foldl (jnStep P (ptB k e h)) s = R) := ⟨_, Lib.hid rfl⟩
  have hRo : jnOut (ptB k e f) (ptB k e h) k n q2 s L = R := by
    unfold jnOut
    rw [hP.out, hR.out]
  rw [hRo]
  have hL5 : L.length ≤ 5 := by omega
  have hfree : Hid (h.2.1 - h.1 = (q2 : Int)) := Lib.hid (by rw [hq, hhk]; omega)
  have hhl := (flV_iff _).1 hh
  have hb1 : 0 ≤ h.1 ∧ h.1 ≤ 5 := by omega
  have hb2 : 0 ≤ h.2.1 ∧ h.2.1 ≤ 5 := by omega
  have hq5 : q2 ≤ 100 := by omega
  have hqt : Hid (k + q2 = h.2.1.toNat) := Lib.hid (by rw [hq]; rfl)
  have HF := Lib.hid hf
  have HFO := Lib.hid hfo
  have HH := Lib.hid hh
  have HHO := Lib.hid hho
  have HHK := Lib.hid hhk
  have HM2 : Hid ((m : Int) = f.2.1) := Lib.hid hm2.symm
  have HV := Lib.hid hV
  have HVL := Lib.hid hv
  have HOK := Lib.hid hok
  have yg := blklt jg
  have yf := blklt jf
  have yh := blklt jh
  have ya := blklt ja
  have ym := blklt jm
  have KG := Lib.hid jg
  have KF := Lib.hid jf
  have KH := Lib.hid jh
  have KA := Lib.hid ja
  have KM := Lib.hid jm
  obtain ⟨g0, g1, g2⟩ := blkc3 jg
  obtain ⟨f0, f1, f2⟩ := blkc3 jf
  obtain ⟨A, cap, rfl, _, _⟩ := lstI hv
  obtain ⟨d11, d12⟩ := d1
  obtain ⟨d21, d22⟩ := d2
  obtain ⟨d31, d32⟩ := d3
  have eg1 : ∀ args w, (callFunc 230 args).run Tryz.prog w = .ok (.enter 230 args) w := enters_of Tryz.func230 (by kernel_rfl) rfl
  have eg2 : ∀ args w, (callFunc 232 args).run Tryz.prog w = .ok (.enter 232 args) w := enters_of Tryz.func232 (by kernel_rfl) rfl
  have HKP : Hid (∀ V w' : World, Below V.heap.size V w' → (fun w' => w'.cell? ⟨bg, 0, none⟩ = some (.int .i64 k) ∧ w'.cell? ⟨bg, 1, none⟩ = some (.int .i64 n) ∧ w'.cell? ⟨bg, 2, none⟩ = some (.int .u32 e) ∧ w'.cell? ⟨W.heap.size, 0, none⟩ = some (.slice A L.length cap) ∧ w'.cell? ⟨bf, 0, none⟩ = some (.int .i64 f.1) ∧ w'.cell? ⟨bf, 1, none⟩ = some (.int .i64 f.2.1) ∧ w'.cell? ⟨bf, 2, none⟩ = some (.int .u32 f.2.2)) V → (fun w' => w'.cell? ⟨bg, 0, none⟩ = some (.int .i64 k) ∧ w'.cell? ⟨bg, 1, none⟩ = some (.int .i64 n) ∧ w'.cell? ⟨bg, 2, none⟩ = some (.int .u32 e) ∧ w'.cell? ⟨W.heap.size, 0, none⟩ = some (.slice A L.length cap) ∧ w'.cell? ⟨bf, 0, none⟩ = some (.int .i64 f.1) ∧ w'.cell? ⟨bf, 1, none⟩ = some (.int .i64 f.2.1) ∧ w'.cell? ⟨bf, 2, none⟩ = some (.int .u32 f.2.2)) w') := Lib.hid fun V w' hb h => ⟨bkeep hb h.1, bkeep hb h.2.1, bkeep hb h.2.2.1, bkeep hb h.2.2.2.1, bkeep hb h.2.2.2.2.1, bkeep hb h.2.2.2.2.2.1, bkeep hb h.2.2.2.2.2.2⟩
  clear hfk hfl hV hlt hlen hv hf hfo hh hho hhk hq hok jg jf jh ja jm hl hhl hRo hm2
  go_enter Tryz.func226, Tryz.ntmps226
  go_upto_region 1 with fail
  go_cut [7] (fun s7 wx => ∃ g7 : Nat, s7 = .pointer (some ⟨g7, 0, none⟩) ∧ wx.heap[g7]? = some (.cells #[.bool P] 4 (0, 0)) ∧ wx.heap[W.heap.size]? = some (.cells #[.slice A L.length cap] 168 (0, 0)) ∧ Below W.heap.size W wx ∧ W.heap.size < g7)
  case first =>
    (refine wp_region_held_drew (S := (fun w' => w'.cell? ⟨bg, 0, none⟩ = some (.int .i64 k) ∧ w'.cell? ⟨bg, 1, none⟩ = some (.int .i64 n) ∧ w'.cell? ⟨bg, 2, none⟩ = some (.int .u32 e) ∧ w'.cell? ⟨W.heap.size, 0, none⟩ = some (.slice A L.length cap) ∧ w'.cell? ⟨bf, 0, none⟩ = some (.int .i64 f.1) ∧ w'.cell? ⟨bf, 1, none⟩ = some (.int .i64 f.2.1) ∧ w'.cell? ⟨bf, 2, none⟩ = some (.int .u32 f.2.2))) (by kernel_rfl) ?_ (fun hHeld => ?_); (focus (first | exact hS | (simp [*, go_sem]; done) | fail)); refine rt 0 (some 9) (v := ?_) rfl rfl ?_ ?_; rotate_left; (focus (intro w' hSw; (try dsimp only at hSw); go_simp; (try with_reducible rfl))); (try simp only [Act.put, nA, nB, nC]); refine rt 1 (some 10) (v := ?_) rfl rfl ?_ ?_; rotate_left; (focus (intro w' hSw; (try dsimp only at hSw); go_simp; (try with_reducible rfl))); (try simp only [Act.put, nA, nB, nC]); refine rt 3 (some 12) (v := ?_) rfl rfl ?_ ?_; rotate_left; (focus (intro w' hSw; (try dsimp only at hSw); go_simp; (try with_reducible rfl))); (try simp only [Act.put, nA, nB, nC]); refine wpAnyH_ready (rs := [2, 5]) (by kernel_rfl) (by simp) ?_; refine AllReadyH.cons rfl (fun K hK => ?_) (AllReadyH.cons rfl (fun K hK => ?_) AllReadyH.nil); (focus (go_simp; (go_at_call 227; refine Calls.mono (fOn_any _ k n m e L _ (by omega) (HVL.out.below belA) HV.out hlm) ?_; rintro e0 w2 ⟨rfl, hb⟩; have hS := HKP.out _ _ hb hHeld; have HB2 := Lib.hid (show Below W.heap.size W w2 from Below.trans belA (hb.mono (by first | omega | (simp <;> omega)))); have kl : w2.heap[W.heap.size]? = some (.cells #[.slice A L.length cap] 168 (0, 0)) := (by first | exact bblk hb (by simp) (blkdrew (blknew W _)) | exact bblk hb (by simp <;> omega) (blkal (blkdrew (blknew W _)) _)); have KL2 := Lib.hid kl; have yl2 := blklt kl; (try (have kq := bblk hb (blklt kp) kp; clear kp; have kp := kq; clear kq)); have hz2 := HB2.out.size; clear hb kl); go_wp2_with fail; refine hK.out _ _ ?_ (fun hHeld => ?_); (focus (first | exact hS | (simp [*, go_sem]; done) | fail)); clear hK K; (try simp only [Act.put, nA, nB, nC]); refine wpAnyH_ready (rs := [4, 5]) (by kernel_rfl) (by simp) ?_; refine AllReadyH.cons rfl (fun K hK => ?_) (AllReadyH.cons rfl (fun K hK => ?_) AllReadyH.nil); (focus (go_simp; (go_at_call 228; refine Calls.mono (falike_any _ ((k : Int), ((m : Int), onE e (seqI k ++ L))) f hx.out HF.out hxo.out HFO.out HM2.out) ?_; rw [hpt.out]; rintro e0 w3 ⟨rfl, hb⟩; have hS := HKP.out _ _ hb hHeld; have hb2 := HB2.out; have HB3 := Lib.hid (show Below W.heap.size W w3 from Below.trans belA (hb.mono (by first | omega | (simp <;> omega)))); have kl : w3.heap[W.heap.size]? = some (.cells #[.slice A L.length cap] 168 (0, 0)) := (by first | exact bblk hb yl2 KL2.out | exact bblk hb (by simp <;> omega) (blkal KL2.out _)); have yl3 := blklt kl; have KL3 := Lib.hid kl; (try (have kq := bblk hb (blklt kp) kp; clear kp; have kp := kq; clear kq; obtain ⟨pz0, pf0⟩ := blk1 kp; have pzz := blklt kp)); have hz3 := HB3.out.size; have v0 := World.block_lt_of_cell? _ _ hS.1; have v1 := World.block_lt_of_cell? _ _ hS.2.2.2.2.1; simp only at v0 v1; clear hb hb2 kl); go_wp2_with fail; refine hK.out _ _ ?_ (fun hHeld => ?_); (focus (first | exact hS | (simp [*, go_sem]; done) | fail)); clear hK K; (try simp only [Act.put, nA, nB, nC]); refine wpAnyH_ready (rs := [5]) (by kernel_rfl) (by simp) ?_; refine AllReadyH.cons rfl (fun K hK => ?_) AllReadyH.nil; (try go_simp); refine hK.out _ _ ?_ (fun hHeld => ?_); (focus (first | exact hS | (simp [*, go_sem]; done) | fail)); clear hK K; (try simp only [Act.put, nA, nB, nC]); refine wpAnyH_ready (rs := [6]) (by kernel_rfl) (by simp) ?_; refine AllReadyH.cons rfl (fun K hK => ?_) AllReadyH.nil; (try go_simp); refine hK.out _ _ ?_ (fun hHeld => ?_); (focus (first | exact hS | (simp [*, go_sem]; done) | fail)); clear hK K; (try simp only [Act.put, nA, nB, nC]); refine wpAnyH_done (by kernel_rfl) ?_ _)); rotate_left 1; (focus (((try go_simp); have hS := HKP.out _ _ (bal (Below.refl _ _) (.cells #[.bool false] 4)) hHeld; have kp := blknew w2 (.cells #[.bool false] 4 (0, 0)); have hnb : W.heap.size < w2.heap.size := yl2); refine hK.out _ _ ?_ (fun hHeld => ?_); (focus (first | exact hS | (simp [*, go_sem]; done) | fail)); clear hK K; (try simp only [Act.put, nA, nB, nC]); refine wpAnyH_ready (rs := [4]) (by kernel_rfl) (by simp) ?_; refine AllReadyH.cons rfl (fun K hK => ?_) AllReadyH.nil; go_simp; (go_at_call 228; refine Calls.mono (falike_any _ ((k : Int), ((m : Int), onE e (seqI k ++ L))) f hx.out HF.out hxo.out HFO.out HM2.out) ?_; rw [hpt.out]; rintro e0 w3 ⟨rfl, hb⟩; have hS := HKP.out _ _ hb hHeld; have hb2 := HB2.out; have HB3 := Lib.hid (show Below W.heap.size W w3 from Below.trans belA (hb.mono (by first | omega | (simp <;> omega)))); have kl : w3.heap[W.heap.size]? = some (.cells #[.slice A L.length cap] 168 (0, 0)) := (by first | exact bblk hb yl2 KL2.out | exact bblk hb (by simp <;> omega) (blkal KL2.out _)); have yl3 := blklt kl; have KL3 := Lib.hid kl; (try (have kq := bblk hb (blklt kp) kp; clear kp; have kp := kq; clear kq; obtain ⟨pz0, pf0⟩ := blk1 kp; have pzz := blklt kp)); have hz3 := HB3.out.size; have v0 := World.block_lt_of_cell? _ _ hS.1; have v1 := World.block_lt_of_cell? _ _ hS.2.2.2.2.1; simp only at v0 v1; clear hb hb2 kl); go_wp2_with fail; refine hK.out _ _ ?_ (fun hHeld => ?_); (focus (first | exact hS | (simp [*, go_sem]; done) | fail)); clear hK K; (try simp only [Act.put, nA, nB, nC]); refine wpAnyH_ready (rs := [6]) (by kernel_rfl) (by simp) ?_; refine AllReadyH.cons rfl (fun K hK => ?_) AllReadyH.nil; (try go_simp); refine hK.out _ _ ?_ (fun hHeld => ?_); (focus (first | exact hS | (simp [*, go_sem]; done) | fail)); clear hK K; (try simp only [Act.put, nA, nB, nC]); refine wpAnyH_done (by kernel_rfl) ?_ _)); rotate_left 1)); rotate_left 2; (focus (((try go_simp); have hS := HKP.out _ _ (bal (Below.refl _ _) (.cells #[.bool false] 4)) hHeld; have kp : ((W.alloc (.cells #[.slice A L.length cap] 168)).drew.alloc (.cells #[.bool false] 4)).heap[W.heap.size + 1]? = _ := blknew' _ _ _ (by simp); have hnb : W.heap.size < (W.alloc (.cells #[.slice A L.length cap] 168)).drew.heap.size := (by simp)); refine hK.out _ _ ?_ (fun hHeld => ?_); (focus (first | exact hS | (simp [*, go_sem]; done) | fail)); clear hK K; (try simp only [Act.put, nA, nB, nC]); refine wpAnyH_ready (rs := [2]) (by kernel_rfl) (by simp) ?_; refine AllReadyH.cons rfl (fun K hK => ?_) AllReadyH.nil; go_simp; (go_at_call 227; refine Calls.mono (fOn_any _ k n m e L _ (by omega) (HVL.out.below belA) HV.out hlm) ?_; rintro e0 w2 ⟨rfl, hb⟩; have hS := HKP.out _ _ hb hHeld; have HB2 := Lib.hid (show Below W.heap.size W w2 from Below.trans belA (hb.mono (by first | omega | (simp <;> omega)))); have kl : w2.heap[W.heap.size]? = some (.cells #[.slice A L.length cap] 168 (0, 0)) := (by first | exact bblk hb (by simp) (blkdrew (blknew W _)) | exact bblk hb (by simp <;> omega) (blkal (blkdrew (blknew W _)) _)); have KL2 := Lib.hid kl; have yl2 := blklt kl; (try (have kq := bblk hb (blklt kp) kp; clear kp; have kp := kq; clear kq)); have hz2 := HB2.out.size; clear hb kl); go_wp2_with fail; refine hK.out _ _ ?_ (fun hHeld => ?_); (focus (first | exact hS | (simp [*, go_sem]; done) | fail)); clear hK K; (try simp only [Act.put, nA, nB, nC]); refine wpAnyH_ready (rs := [4]) (by kernel_rfl) (by simp) ?_; refine AllReadyH.cons rfl (fun K hK => ?_) AllReadyH.nil; go_simp; (go_at_call 228; refine Calls.mono (falike_any _ ((k : Int), ((m : Int), onE e (seqI k ++ L))) f hx.out HF.out hxo.out HFO.out HM2.out) ?_; rw [hpt.out]; rintro e0 w3 ⟨rfl, hb⟩; have hS := HKP.out _ _ hb hHeld; have hb2 := HB2.out; have HB3 := Lib.hid (show Below W.heap.size W w3 from Below.trans belA (hb.mono (by first | omega | (simp <;> omega)))); have kl : w3.heap[W.heap.size]? = some (.cells #[.slice A L.length cap] 168 (0, 0)) := (by first | exact bblk hb yl2 KL2.out | exact bblk hb (by simp <;> omega) (blkal KL2.out _)); have yl3 := blklt kl; have KL3 := Lib.hid kl; (try (have kq := bblk hb (blklt kp) kp; clear kp; have kp := kq; clear kq; obtain ⟨pz0, pf0⟩ := blk1 kp; have pzz := blklt kp)); have hz3 := HB3.out.size; have v0 := World.block_lt_of_cell? _ _ hS.1; have v1 := World.block_lt_of_cell? _ _ hS.2.2.2.2.1; simp only at v0 v1; clear hb hb2 kl); go_wp2_with fail; refine hK.out _ _ ?_ (fun hHeld => ?_); (focus (first | exact hS | (simp [*, go_sem]; done) | fail)); clear hK K; (try simp only [Act.put, nA, nB, nC]); refine wpAnyH_ready (rs := [6]) (by kernel_rfl) (by simp) ?_; refine AllReadyH.cons rfl (fun K hK => ?_) AllReadyH.nil; (try go_simp); refine hK.out _ _ ?_ (fun hHeld => ?_); (focus (first | exact hS | (simp [*, go_sem]; done) | fail)); clear hK K; (try simp only [Act.put, nA, nB, nC]); refine wpAnyH_done (by kernel_rfl) ?_ _)); rotate_left 1)
    all_goals
      clear hHeld
      have hb3 := HB3.out
      have kl3 := KL3.out
      go_wp2_with fail
      go_meet
      exact ⟨_, rfl, blkA, blkA, belA, (by first | omega | (simp <;> omega))⟩
  case rest =>
    obtain ⟨g7, rfl, k7, kl, hBx, hg7⟩ := hcut
    obtain ⟨w4, rfl⟩ : ∃ z, z = wc := ⟨_, rfl⟩
    have HB4 := Lib.hid hBx
    have K7 := Lib.hid k7
    have KL := Lib.hid kl
    have yl := blklt kl
    have y7 := blklt k7
    have hz4 := hBx.size
    have kg := bblk hBx yg KG.out
    obtain ⟨g40, g41, g42⟩ := blkc3 kg
    have yg4 := blklt kg
    clear k7 kl hBx kg
    go_wp2_with fail
    refine Calls.mono (others2_any _ k n e hkn hn) ?_
    rintro e0 w5 ⟨g, o, c, rfl, hg, hc1, hc2, hI, hb⟩
    have HB5 := Lib.hid (HB4.out.trans (hb.mono hz4))
    have hz5 := hb.size
    have K75 := Lib.hid (bblk hb y7 K7.out)
    have KL5 := Lib.hid (bblk hb yl KL.out)
    have HI := Lib.hid hI
    have hlen5 : (leftI k n L).length ≤ n - k := by have := List.length_filter_le (fun d => !memB L d) (othI k n); rw [othI_len] at this; exact this
    have HDEL : Hid (Calls Tryz.prog 229 #[.slice (some ⟨g, o, none⟩) (n - k : Nat) c, .func (.func 230) #[] #[.pointer (some ⟨W.heap.size, 0, none⟩)]] w5 fun e w' => e = .returned (.slice (some ⟨g, o, none⟩) (leftI k n L).length c) ∧ IntB w' g o (leftI k n L) ∧ Chg [g] w5 w') := Lib.hid (by
      have := delInt_any w5 (othI k n) g o c 230 #[.pointer (some ⟨W.heap.size, 0, none⟩)] (fun d => memB L d) hI (by rw [othI_len]; omega) (by rw [othI_len]; exact hc1) hc2 eg1 (fun W' d hC hd => joint11 W' W.heap.size L (.slice A L.length cap) d (hC.blkj (by simp; omega) KL5.out) (HVL.out.below (Below.trans HB5.out (hC.below (by simp; omega) HB5.out.size))) (by omega))
      rw [othI_len] at this
      exact this)
    clear hb hI
    go_wp2_with fail
    refine Calls.mono HDEL.out ?_
    rintro e0 w6 ⟨rfl, hI6, hC6⟩
    have HB6 := Lib.hid (Below.trans HB5.out (hC6.below (B := W.heap.size) (by simp; omega) HB5.out.size))
    have K76 := Lib.hid (hC6.blkj (b := g7) (by simp; omega) K75.out)
    have HI6 := Lib.hid hI6
    have kh := bblk HB6.out yh KH.out
    obtain ⟨h60, h61, h62⟩ := blkc3 kh
    have yh6 := blklt kh
    have hz6 := HB6.out.size
    have HD : Hid (Does 232 #[.pointer (some ⟨ba, 0, none⟩), .pointer (some ⟨g7, 0, none⟩), .pointer (some ⟨bg, 0, none⟩), .pointer (some ⟨bh, 0, none⟩), .pointer (some ⟨bm, 0, none⟩)] W.heap.size [ba, bm]
      (fun (s : Int × Int) (V : World) => (V.heap[bg]? = some (.cells #[.int .i64 k, .int .i64 n, .int .u32 e] 104 (0, 0)) ∧ V.heap[bh]? = some (.cells #[.int .i64 h.1, .int .i64 h.2.1, .int .u32 h.2.2] 104 (0, 0)) ∧ V.heap[g7]? = some (.cells #[.bool P] 4 (0, 0))) ∧ V.heap[ba]? = some (.cells #[.int .i64 s.2] 2 (0, 0)) ∧ V.heap[bm]? = some (.cells #[.int .i64 s.1] 2 (0, 0)))
      (jnStep P (ptB k e h)) (fun L2 => VL (seqI k ++ L2) ∧ L2.length = q2)) := Lib.hid
      { enters := eg2
        keep := fun s V V' h hb => ⟨⟨bblk hb (blklt h.1.1) h.1.1, bblk hb (blklt h.1.2.1) h.1.2.1, bblk hb (blklt h.1.2.2) h.1.2.2⟩, bblk hb (blklt h.2.1) h.2.1, bblk hb (blklt h.2.2) h.2.2⟩
        call := fun s V L2 v hok hI hB hv => by
          refine (joint12 V ba g7 bg bh bm k n e h P s L2 v hok.1 (by rw [hok.2]; exact hqt.out) hk HH.out HHO.out HHK.out hI.2.1 hI.1.2.2 hI.1.1 hI.1.2.1 hI.2.2 ⟨by omega, by omega⟩ ⟨by omega, by omega⟩ ⟨by omega, by omega⟩ (by omega) ⟨ya, ym⟩ hv).mono ?_
          rintro e0 V' ⟨rfl, ⟨h1, h2⟩, hc⟩
          exact ⟨rfl, ⟨⟨hc.blkj (by simp; omega) hI.1.1, hc.blkj (by simp; omega) hI.1.2.1, hc.blkj (by simp; omega) hI.1.2.2⟩, h1, h2⟩, hc⟩
        lt := by simp; omega }
    clear hI6 hC6 kh
    go_wp2_with (first | (go_at_call 162; refine Calls.mono (ffree_any _ h hb1 hb2) ?_; rw [hfree.out]; rintro e0 w7 ⟨rfl, hb⟩; obtain ⟨X7, m7, rfl⟩ := plsOf hb; clear hb))
    have hbp : Below w6.heap.size w6 (pls w6 X7 m7) := bpl (Below.refl _ _) X7 m7
    have HBP := Lib.hid hbp
    refine Calls.mono (chosen_any HD.out (leftI k n L) g o _ c q2 (by omega) hq5 _ s (Nat.le_trans hz6 hbp.size) (by simp; omega) ((HI6.out.lst (by omega) hc2).below hbp) ⟨⟨bblk hbp (by omega) (bblk HB6.out yg KG.out), bblk hbp (by omega) (bblk HB6.out yh KH.out), bblk hbp (blklt K76.out) K76.out⟩, bblk hbp (by omega) (bblk HB6.out ya KA.out), bblk hbp (by omega) (bblk HB6.out ym KM.out)⟩ HOK.out) ?_
    rw [hR.out]
    rintro e0 w8 ⟨rfl, ⟨_, ka, km⟩, hC8⟩
    have KA8 := Lib.hid ka
    have KM8 := Lib.hid km
    have HC8 := Lib.hid hC8
    clear hbp ka km hC8
    go_wp2_with fail
    exact bodyPost_end (v := .tuple #[]) (by simp [results, Tryz.results226, go_sem]) rfl ⟨rfl, ⟨KA8.out, KM8.out⟩, (Chg.of (Below.trans HB6.out (HBP.out.mono hz6)) _).trans HC8.out⟩
end Go.Proofs.YtekchdgpaemofaaGreat

import Derived.Test.YtekchdgpaemofaaGreatYyJa
import Derived.Test.YtekchdgpaemofaaGreatYyDu
import Derived.Test.YtekchdgpaemofaaGreatYySl
namespace Go.Proofs.YtekchdgpaemofaaGreat
open Go.ChangeShapes Go.WideShapes Go.RowKit
set_option linter.unusedVariables false
set_option linter.unusedSimpArgs false
attribute [local irreducible] Calls
set_option maxHeartbeats 1000000 in
theorem joint12 (W : World) (ba b1 bg bh bm k n : Nat) (e : Int) (f : Flg) (p : Bool) (s : Int × Int) (L : List Int) (v : Value) (hV : VL (seqI k ++ L)) (hl : k + L.length = f.2.1.toNat) (hk : k ≤ 3) (hf : flV f = true) (hfo : okFlag f) (hfk : f.1 = k)
    (ha : W.heap[ba]? = some (.cells #[.int .i64 s.2] 2 (0, 0))) (h1 : W.heap[b1]? = some (.cells #[.bool p] 4 (0, 0))) (hg : W.heap[bg]? = some (.cells #[.int .i64 k, .int .i64 n, .int .u32 e] 104 (0, 0))) (hh : W.heap[bh]? = some (.cells #[.int .i64 f.1, .int .i64 f.2.1, .int .u32 f.2.2] 104 (0, 0))) (hm : W.heap[bm]? = some (.cells #[.int .i64 s.1] 2 (0, 0)))
    (d1 : b1 ≠ ba ∧ b1 ≠ bm) (d2 : bg ≠ ba ∧ bg ≠ bm) (d3 : bh ≠ ba ∧ bh ≠ bm) (d4 : bm ≠ ba) {B : Nat} (hB : ba < B ∧ bm < B) (hv : AppI B W v L) :
    Calls Tryz.prog 232 #[v, .pointer (some ⟨ba, 0, none⟩), .pointer (some ⟨b1, 0, none⟩), .pointer (some ⟨bg, 0, none⟩), .pointer (some ⟨bh, 0, none⟩), .pointer (some ⟨bm, 0, none⟩)] W fun e0 W' => e0 = .returned (.tuple #[]) ∧
      (W'.heap[ba]? = some (.cells #[.int .i64 (jnStep p (ptB k e f) s L).2] 2 (0, 0)) ∧ W'.heap[bm]? = some (.cells #[.int .i64 (jnStep p (ptB k e f) s L).1] 2 (0, 0))) ∧ Chg [ba, bm] W W' := by
  have hfl := (flV_iff _).1 hf
  obtain ⟨m, hm2⟩ := Int.eq_ofNat_of_zero_le hfl.2.1.1
  have hlm : k + L.length = m := by rw [hl, hm2]; rfl
  have hlen : (seqI k ++ L).length = m := by rw [List.length_append, seqI_len]; exact hlm
  have hm5 : m ≤ 5 := by rw [← hlen]; exact hV.1
  have hlt := onE_lt e hV.1
  rw [hlen] at hlt
  have hx : Hid (flV ((k : Int), ((m : Int), onE e (seqI k ++ L))) = true) := Lib.hid ((flV_iff _).2 ⟨⟨by show (0 : Int) ≤ k; omega, by show (k : Int) ≤ 3; omega⟩, ⟨by show (0 : Int) ≤ m; omega, by show (m : Int) ≤ 5; omega⟩, by show (k : Int) ≤ m; omega, hlt.2⟩)
  have hxo : Hid (okFlag ((k : Int), ((m : Int), onE e (seqI k ++ L)))) := Lib.hid ⟨okN (by omega), okN (by omega), onE_ok _ _⟩
  have hpt : Hid (fAlike ((k : Int), ((m : Int), onE e (seqI k ++ L))) f = ptB k e f L) := Lib.hid (by
    unfold fAlike ptB
    rw [hm2, hfk]
    simp [leastF])
  have HF := Lib.hid hf
  have HFO := Lib.hid hfo
  have HM2 : Hid ((m : Int) = f.2.1) := Lib.hid hm2.symm
  have ya := blklt ha
  have yg := blklt hg
  have yf := blklt hh
  have y1 := blklt h1
  have ym := blklt hm
  obtain ⟨d11, d12⟩ := d1
  obtain ⟨d21, d22⟩ := d2
  obtain ⟨d31, d32⟩ := d3
  obtain ⟨a0, af0⟩ := blk1 ha
  obtain ⟨W1, hW1⟩ : ∃ W1, W.setCell ⟨ba, 0, none⟩ (.int .i64 (wrap64 (s.2 + 1))) = W1 := ⟨_, rfl⟩
  have HC1 : Hid (Chg [ba, bm] W W1) := Lib.hid (by rw [← hW1]; exact (Chg.refl _ _).set (by simp) _)
  have KA := Lib.hid (show W1.heap[ba]? = some (.cells #[.int .i64 (wrap64 (s.2 + 1))] 2 (0, 0)) from by rw [← hW1]; exact blkset1 ha _)
  have KG := Lib.hid (show W1.heap[bg]? = some (.cells #[.int .i64 k, .int .i64 n, .int .u32 e] 104 (0, 0)) from by rw [← hW1]; exact blkset hg (by show bg ≠ ba; exact d21) _)
  have KF := Lib.hid (show W1.heap[bh]? = some (.cells #[.int .i64 f.1, .int .i64 f.2.1, .int .u32 f.2.2] 104 (0, 0)) from by rw [← hW1]; exact blkset hh (by show bh ≠ ba; exact d31) _)
  have K1 := Lib.hid (show W1.heap[b1]? = some (.cells #[.bool p] 4 (0, 0)) from by rw [← hW1]; exact blkset h1 (by show b1 ≠ ba; exact d11) _)
  have KM := Lib.hid (show W1.heap[bm]? = some (.cells #[.int .i64 s.1] 2 (0, 0)) from by rw [← hW1]; exact blkset hm (by show bm ≠ ba; exact d4) _)
  have HVL : Hid (Lst (shI .i64) W1 L v) := Lib.hid (hv.chg (F := [ba, bm]) (by simp; omega) HC1.out).lst
  have z1 : W1.heap.size = W.heap.size := by rw [← hW1, setCell_size]
  have HV := Lib.hid hV
  obtain ⟨g0, g1, g2⟩ := blkc3 KG.out
  obtain ⟨f0, f1, f2⟩ := blkc3 KF.out
  have p0 := blkc1 K1.out
  obtain ⟨A, cap, rfl, _, _⟩ := lstI hv.lst
  clear hfk hfl hV hlt hlen hv hf hfo hg hh hm hm2 hl ha h1
  cases p
  · go_enter Tryz.func232, Tryz.ntmps232
    go_wp2_with fail
    (refine wp_region_held_drew (S := (fun w' => w'.cell? ⟨b1, 0, none⟩ = some (.bool false) ∧ w'.cell? ⟨bg, 0, none⟩ = some (.int .i64 k) ∧ w'.cell? ⟨bg, 1, none⟩ = some (.int .i64 n) ∧ w'.cell? ⟨bg, 2, none⟩ = some (.int .u32 e) ∧ w'.cell? ⟨bh, 0, none⟩ = some (.int .i64 f.1) ∧ w'.cell? ⟨bh, 1, none⟩ = some (.int .i64 f.2.1) ∧ w'.cell? ⟨bh, 2, none⟩ = some (.int .u32 f.2.2))) (by kernel_rfl) ?_ (fun hHeld => ?_); (focus (first | exact hS | (simp [*, go_sem]; done) | fail)); refine rt 0 (some 9) (v := ?_) rfl rfl ?_ ?_; rotate_left; (focus (intro w' hSw; (try dsimp only at hSw); go_simp; (try with_reducible rfl))); (try simp only [Act.put, nA, nB, nC]); refine rt 1 (some 10) (v := ?_) rfl rfl ?_ ?_; rotate_left; (focus (intro w' hSw; (try dsimp only at hSw); go_simp; (try with_reducible rfl))); (try simp only [Act.put, nA, nB, nC]); refine rg_take 2 (some 11) (v := undef) rfl (by kernel_rfl) (by kernel_rfl) (by kernel_rfl) (by kernel_rfl) (fun _ _ _ h => h) (Or.inr ⟨by kernel_rfl, rfl⟩) (by assumption) ?_; (try simp only [Act.put, nA, nB, nC]); refine rg_take 3 (some 12) (v := undef) rfl (by kernel_rfl) (by kernel_rfl) (by kernel_rfl) (by kernel_rfl) (fun _ _ _ h => h) (Or.inr ⟨by kernel_rfl, rfl⟩) (by assumption) ?_; (try simp only [Act.put, nA, nB, nC]); refine rg_take 4 (some 13) (v := undef) rfl (by kernel_rfl) (by kernel_rfl) (by kernel_rfl) (by kernel_rfl) (fun _ _ _ h => h) (Or.inr ⟨by kernel_rfl, rfl⟩) (by assumption) ?_; (try simp only [Act.put, nA, nB, nC]); refine rg_take 5 (some 14) (v := undef) rfl (by kernel_rfl) (by kernel_rfl) (by kernel_rfl) (by kernel_rfl) (fun _ _ _ h => h) (Or.inr ⟨by kernel_rfl, rfl⟩) (by assumption) ?_; (try simp only [Act.put, nA, nB, nC]); refine rg_take 6 (some 15) (v := undef) rfl (by kernel_rfl) (by kernel_rfl) (by kernel_rfl) (by kernel_rfl) (fun _ _ _ h => h) (Or.inr ⟨by kernel_rfl, rfl⟩) (by assumption) ?_; (try simp only [Act.put, nA, nB, nC]); refine rt 7 (some 16) (v := ?_) rfl rfl ?_ ?_; rotate_left; (focus (intro w' hSw; (try dsimp only at hSw); go_simp; (try with_reducible rfl))); (try simp only [Act.put, nA, nB, nC]); refine wpAnyH_done (by kernel_rfl) ?_ _)
    clear hHeld
    go_wp2_with fail
    exact bodyPost_end (v := .tuple #[]) (by simp [results, Tryz.results232, go_sem]) rfl ⟨rfl, ⟨KA.out, KM.out⟩, HC1.out⟩
  · have HKP : Hid (∀ W w' : World, Below W.heap.size W w' → (fun w' => w'.cell? ⟨b1, 0, none⟩ = some (.bool true) ∧ w'.cell? ⟨bg, 0, none⟩ = some (.int .i64 k) ∧ w'.cell? ⟨bg, 1, none⟩ = some (.int .i64 n) ∧ w'.cell? ⟨bg, 2, none⟩ = some (.int .u32 e) ∧ w'.cell? ⟨bh, 0, none⟩ = some (.int .i64 f.1) ∧ w'.cell? ⟨bh, 1, none⟩ = some (.int .i64 f.2.1) ∧ w'.cell? ⟨bh, 2, none⟩ = some (.int .u32 f.2.2)) W → (fun w' => w'.cell? ⟨b1, 0, none⟩ = some (.bool true) ∧ w'.cell? ⟨bg, 0, none⟩ = some (.int .i64 k) ∧ w'.cell? ⟨bg, 1, none⟩ = some (.int .i64 n) ∧ w'.cell? ⟨bg, 2, none⟩ = some (.int .u32 e) ∧ w'.cell? ⟨bh, 0, none⟩ = some (.int .i64 f.1) ∧ w'.cell? ⟨bh, 1, none⟩ = some (.int .i64 f.2.1) ∧ w'.cell? ⟨bh, 2, none⟩ = some (.int .u32 f.2.2)) w') := Lib.hid fun W w' hb h => ⟨bkeep hb h.1, bkeep hb h.2.1, bkeep hb h.2.2.1, bkeep hb h.2.2.2.1, bkeep hb h.2.2.2.2.1, bkeep hb h.2.2.2.2.2.1, bkeep hb h.2.2.2.2.2.2⟩
    have yg1 : bg < W1.heap.size := by omega
    have yf1 : bh < W1.heap.size := by omega
    have ym1 : bm < W1.heap.size := by omega
    cases hp : ptB k e f L
    · have hst : Hid (jnStep true (ptB k e f) s L = (s.1, wrap64 (s.2 + 1))) := Lib.hid (by unfold jnStep; rw [hp]; rfl)
      rw [hst.out]
      go_enter Tryz.func232, Tryz.ntmps232
      go_wp2_with fail
      (refine wp_region_held_drew (S := (fun w' => w'.cell? ⟨b1, 0, none⟩ = some (.bool true) ∧ w'.cell? ⟨bg, 0, none⟩ = some (.int .i64 k) ∧ w'.cell? ⟨bg, 1, none⟩ = some (.int .i64 n) ∧ w'.cell? ⟨bg, 2, none⟩ = some (.int .u32 e) ∧ w'.cell? ⟨bh, 0, none⟩ = some (.int .i64 f.1) ∧ w'.cell? ⟨bh, 1, none⟩ = some (.int .i64 f.2.1) ∧ w'.cell? ⟨bh, 2, none⟩ = some (.int .u32 f.2.2))) (by kernel_rfl) ?_ (fun hHeld => ?_); (focus (first | exact hS | (simp [*, go_sem]; done) | fail)); refine rt 0 (some 9) (v := ?_) rfl rfl ?_ ?_; rotate_left; (focus (intro w' hSw; (try dsimp only at hSw); go_simp; (try with_reducible rfl))); (try simp only [Act.put, nA, nB, nC]); refine rt 1 (some 10) (v := ?_) rfl rfl ?_ ?_; rotate_left; (focus (intro w' hSw; (try dsimp only at hSw); go_simp; (try with_reducible rfl))); (try simp only [Act.put, nA, nB, nC]); refine rt 2 (some 11) (v := ?_) rfl rfl ?_ ?_; rotate_left; (focus (intro w' hSw; (try dsimp only at hSw); go_simp; (try with_reducible rfl))); (try simp only [Act.put, nA, nB, nC]); refine rt 3 (some 12) (v := ?_) rfl rfl ?_ ?_; rotate_left; (focus (intro w' hSw; (try dsimp only at hSw); go_simp; (try with_reducible rfl))); (try simp only [Act.put, nA, nB, nC]); refine rt 5 (some 14) (v := ?_) rfl rfl ?_ ?_; rotate_left; (focus (intro w' hSw; (try dsimp only at hSw); go_simp; (try with_reducible rfl))); (try simp only [Act.put, nA, nB, nC]); refine wpAnyH_ready (rs := [4]) (by kernel_rfl) (by simp) ?_; refine AllReadyH.cons rfl (fun K hK => ?_) AllReadyH.nil; go_simp; (go_at_call 227; refine Calls.mono (fOn_any _ k n m e L _ (by omega) (HVL.out.below belA) HV.out hlm) ?_; rintro e0 w2 ⟨rfl, hb⟩; have hS := HKP.out _ _ hb hHeld; have HB2 := Lib.hid (show Below W1.heap.size W1 w2 from Below.trans belA (hb.mono (by first | omega | (simp <;> omega)))); have hz2 := HB2.out.size; clear hb); go_wp2_with fail; refine hK.out _ _ ?_ (fun hHeld => ?_); (focus (first | exact hS | (simp [*, go_sem]; done) | fail)); clear hK K; (try simp only [Act.put, nA, nB, nC]); refine wpAnyH_ready (rs := [6]) (by kernel_rfl) (by simp) ?_; refine AllReadyH.cons rfl (fun K hK => ?_) AllReadyH.nil; go_simp; (go_at_call 228; refine Calls.mono (falike_any _ ((k : Int), ((m : Int), onE e (seqI k ++ L))) f hx.out HF.out hxo.out HFO.out HM2.out) ?_; rw [hpt.out]; rintro e0 w3 ⟨rfl, hb⟩; have hS := HKP.out _ _ hb hHeld; have hb2 := HB2.out; have HB3 := Lib.hid (show Below W1.heap.size W1 w3 from Below.trans belA (hb.mono (by first | omega | (simp <;> omega)))); clear hb hb2); go_wp2_with fail; refine hK.out _ _ ?_ (fun hHeld => ?_); (focus (first | exact hS | (simp [*, go_sem]; done) | fail)); clear hK K; (try simp only [Act.put, nA, nB, nC]); refine rt 7 (some 16) (v := ?_) rfl rfl ?_ ?_; rotate_left; (focus (intro w' hSw; (try dsimp only at hSw); go_simp; (try with_reducible rfl))); (try simp only [Act.put, nA, nB, nC]); refine wpAnyH_done (by kernel_rfl) ?_ _)
      clear hHeld
      have ka := bblk HB3.out (by omega) KA.out
      have km := bblk HB3.out ym1 KM.out
      have KA2 := Lib.hid ka
      have KM2 := Lib.hid km
      have HC2 : Hid (Chg [ba, bm] W w3) := Lib.hid (HC1.out.trans (Chg.of HB3.out _))
      obtain ⟨m0, mf⟩ := blk1 km
      have ym2 := blklt km
      clear ka km
      go_wp2_with fail
      exact bodyPost_end (v := .tuple #[]) (by simp [results, Tryz.results232, go_sem]) rfl ⟨rfl, ⟨KA2.out, KM2.out⟩, HC2.out⟩
    · have hst : Hid (jnStep true (ptB k e f) s L = (wrap64 (s.1 + 1), wrap64 (s.2 + 1))) := Lib.hid (by unfold jnStep; rw [hp]; rfl)
      rw [hst.out]
      go_enter Tryz.func232, Tryz.ntmps232
      go_wp2_with fail
      (refine wp_region_held_drew (S := (fun w' => w'.cell? ⟨b1, 0, none⟩ = some (.bool true) ∧ w'.cell? ⟨bg, 0, none⟩ = some (.int .i64 k) ∧ w'.cell? ⟨bg, 1, none⟩ = some (.int .i64 n) ∧ w'.cell? ⟨bg, 2, none⟩ = some (.int .u32 e) ∧ w'.cell? ⟨bh, 0, none⟩ = some (.int .i64 f.1) ∧ w'.cell? ⟨bh, 1, none⟩ = some (.int .i64 f.2.1) ∧ w'.cell? ⟨bh, 2, none⟩ = some (.int .u32 f.2.2))) (by kernel_rfl) ?_ (fun hHeld => ?_); (focus (first | exact hS | (simp [*, go_sem]; done) | fail)); refine rt 0 (some 9) (v := ?_) rfl rfl ?_ ?_; rotate_left; (focus (intro w' hSw; (try dsimp only at hSw); go_simp; (try with_reducible rfl))); (try simp only [Act.put, nA, nB, nC]); refine rt 1 (some 10) (v := ?_) rfl rfl ?_ ?_; rotate_left; (focus (intro w' hSw; (try dsimp only at hSw); go_simp; (try with_reducible rfl))); (try simp only [Act.put, nA, nB, nC]); refine rt 2 (some 11) (v := ?_) rfl rfl ?_ ?_; rotate_left; (focus (intro w' hSw; (try dsimp only at hSw); go_simp; (try with_reducible rfl))); (try simp only [Act.put, nA, nB, nC]); refine rt 3 (some 12) (v := ?_) rfl rfl ?_ ?_; rotate_left; (focus (intro w' hSw; (try dsimp only at hSw); go_simp; (try with_reducible rfl))); (try simp only [Act.put, nA, nB, nC]); refine rt 5 (some 14) (v := ?_) rfl rfl ?_ ?_; rotate_left; (focus (intro w' hSw; (try dsimp only at hSw); go_simp; (try with_reducible rfl))); (try simp only [Act.put, nA, nB, nC]); refine wpAnyH_ready (rs := [4]) (by kernel_rfl) (by simp) ?_; refine AllReadyH.cons rfl (fun K hK => ?_) AllReadyH.nil; go_simp; (go_at_call 227; refine Calls.mono (fOn_any _ k n m e L _ (by omega) (HVL.out.below belA) HV.out hlm) ?_; rintro e0 w2 ⟨rfl, hb⟩; have hS := HKP.out _ _ hb hHeld; have HB2 := Lib.hid (show Below W1.heap.size W1 w2 from Below.trans belA (hb.mono (by first | omega | (simp <;> omega)))); have hz2 := HB2.out.size; clear hb); go_wp2_with fail; refine hK.out _ _ ?_ (fun hHeld => ?_); (focus (first | exact hS | (simp [*, go_sem]; done) | fail)); clear hK K; (try simp only [Act.put, nA, nB, nC]); refine wpAnyH_ready (rs := [6]) (by kernel_rfl) (by simp) ?_; refine AllReadyH.cons rfl (fun K hK => ?_) AllReadyH.nil; go_simp; (go_at_call 228; refine Calls.mono (falike_any _ ((k : Int), ((m : Int), onE e (seqI k ++ L))) f hx.out HF.out hxo.out HFO.out HM2.out) ?_; rw [hpt.out]; rintro e0 w3 ⟨rfl, hb⟩; have hS := HKP.out _ _ hb hHeld; have hb2 := HB2.out; have HB3 := Lib.hid (show Below W1.heap.size W1 w3 from Below.trans belA (hb.mono (by first | omega | (simp <;> omega)))); clear hb hb2); go_wp2_with fail; refine hK.out _ _ ?_ (fun hHeld => ?_); (focus (first | exact hS | (simp [*, go_sem]; done) | fail)); clear hK K; (try simp only [Act.put, nA, nB, nC]); refine rt 7 (some 16) (v := ?_) rfl rfl ?_ ?_; rotate_left; (focus (intro w' hSw; (try dsimp only at hSw); go_simp; (try with_reducible rfl))); (try simp only [Act.put, nA, nB, nC]); refine wpAnyH_done (by kernel_rfl) ?_ _)
      clear hHeld
      have ka := bblk HB3.out (by omega) KA.out
      have km := bblk HB3.out ym1 KM.out
      have KA2 := Lib.hid ka
      have KM2 := Lib.hid km
      have HC2 : Hid (Chg [ba, bm] W w3) := Lib.hid (HC1.out.trans (Chg.of HB3.out _))
      obtain ⟨m0, mf⟩ := blk1 km
      have ym2 := blklt km
      clear ka km
      go_wp2_with fail
      exact bodyPost_end (v := .tuple #[]) (by simp [results, Tryz.results232, go_sem]) rfl ⟨rfl, ⟨blkset KA2.out (by show ba ≠ bm; omega) _, blkset1 KM2.out _⟩, HC2.out.set (by simp) _⟩
end Go.Proofs.YtekchdgpaemofaaGreat

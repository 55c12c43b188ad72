/- impl.Flag.countIn, impl.Flag.density. -/
import Derived.Test.YtpcjinbbgnmchaaGreatDn
import Derived.Test.YtpcjinbbgnmchaaGreatAk
namespace Go.Proofs.YtpcjinbbgnmchaaGreat
open Go.ChangeShapes Go.WideShapes Go.RowKit
set_option linter.unusedVariables false
set_option linter.unusedSimpArgs false
attribute [local irreducible] Calls
/-- The vertices without labels that are chosen make a flag. -/
def ptB (k : Nat) (e : Int) (f : Flg) (L : List Int) : Bool := leastI f.2.1.toNat k (onE e (seqI k ++ L)) == leastF f
def ctStep (k : Nat) (e : Int) (f : Flg) (s : Int) (L : List Int) : Int := if ptB k e f L then wrap64 (s + 1) else s
def ctF (k n : Nat) (e : Int) (f : Flg) : Int := (((chs (othI k n) (f.2.1.toNat - k) 0 []).countP (ptB k e f) : Nat) : Int)
theorem ct_fold (k : Nat) (e : Int) (f : Flg) (Ls : List (List Int)) (s : Nat) (h : s + Ls.length < 1000000) : Ls.foldl (ctStep k e f) (s : Int) = ((s + Ls.countP (ptB k e f) : Nat) : Int) := by
  induction Ls generalizing s with
  | nil => simp
  | cons L Ls ih =>
    rw [List.length_cons] at h
    rw [List.foldl_cons, List.countP_cons]
    rw [show ctStep k e f (s : Int) L = (if ptB k e f L then wrap64 ((s : Int) + 1) else (s : Int)) from rfl]
    split
    · rw [show wrap64 ((s : Int) + 1) = (s : Int) + 1 by unfold wrap64; omega, show (s : Int) + 1 = ((s + 1 : Nat) : Int) by omega]
      have := ih (s + 1) (by omega)
      rw [this]
      congr 1
      omega
    · rw [ih s (by omega)]
      rfl
theorem chs_oks : ∀ k ≤ 3, ∀ n ≤ 5, ∀ q ≤ 5, (chs (othI k n) q 0 []).all (fun L => decide (L.length = q) && (List.range (k + q)).all fun i => decide (0 ≤ gi (seqI k ++ L) i) && decide (gi (seqI k ++ L) i ≤ 4) && (List.range i).all fun j => decide (gi (seqI k ++ L) j ≠ gi (seqI k ++ L) i)) = true ∧ (chs (othI k n) q 0 []).length ≤ 100 := by decide +kernel
theorem chs_ok {k n q : Nat} (hk : k ≤ 3) (hn : n ≤ 5) (hq : k + q ≤ 5) : ∀ L ∈ chs (othI k n) q 0 [], VL (seqI k ++ L) ∧ L.length = q := by
  intro L hL
  have h := (chs_oks k hk n hn q (by omega)).1
  rw [List.all_eq_true] at h
  have h1 := h L hL
  simp only [Bool.and_eq_true, decide_eq_true_eq, List.all_eq_true, List.mem_range] at h1
  obtain ⟨h2, h3⟩ := h1
  have hl : (seqI k ++ L).length = k + q := by rw [List.length_append, seqI_len, h2]
  refine ⟨⟨by omega, fun i hi => ?_, fun i j hij hj => ?_⟩, h2⟩
  · have := h3 i (by omega); exact this.1
  · have := h3 j (by omega); exact this.2 i hij
set_option maxHeartbeats 1000000 in
theorem countIn1 (W : World) (bg bf bm k n : Nat) (e : Int) (f : Flg) (s : Int) (L : List Int) (v : Value) (hV : VL (seqI k ++ L)) (hl : k + L.length = f.2.1.toNat) (hk : k ≤ 3) (hf : flV f = true) (hfo : okFlag f) (hfk : f.1 = k)
    (hg : W.heap[bg]? = some (.cells #[.int .i64 k, .int .i64 n, .int .u32 e] 81 (0, 0))) (hff : W.heap[bf]? = some (.cells #[.int .i64 f.1, .int .i64 f.2.1, .int .u32 f.2.2] 81 (0, 0))) (hm : W.heap[bm]? = some (.cells #[.int .i64 s] 2 (0, 0))) (hgm : bg ≠ bm ∧ bf ≠ bm) (hv : Lst (shI .i64) W L v) :
    Calls Tryz.prog 229 #[v, .pointer (some ⟨bg, 0, none⟩), .pointer (some ⟨bf, 0, none⟩), .pointer (some ⟨bm, 0, none⟩)] W fun e0 W' => e0 = .returned (.tuple #[]) ∧ (W'.heap[bg]? = some (.cells #[.int .i64 k, .int .i64 n, .int .u32 e] 81 (0, 0)) ∧ W'.heap[bf]? = some (.cells #[.int .i64 f.1, .int .i64 f.2.1, .int .u32 f.2.2] 81 (0, 0)) ∧ W'.heap[bm]? = some (.cells #[.int .i64 (ctStep k e f s L)] 2 (0, 0))) ∧ Chg [bm] W W' := by
  have hfl := (flV_iff _).1 hf
  obtain ⟨m, hm2⟩ := Int.eq_ofNat_of_zero_le hfl.2.1.1
  have hlm : k + L.length = m := by rw [hl, hm2]; rfl
  have hlen : (seqI k ++ L).length = m := by rw [List.length_append, seqI_len]; exact hlm
  have hm5 : m ≤ 5 := by rw [← hlen]; exact hV.1
  have hlt := onE_lt e hV.1
  rw [hlen] at hlt
  have hx : Hid (flV ((k : Int), ((m : Int), onE e (seqI k ++ L))) = true) := Lib.hid ((flV_iff _).2 ⟨⟨by show (0 : Int) ≤ k; omega, by show (k : Int) ≤ 3; omega⟩, ⟨by show (0 : Int) ≤ m; omega, by show (m : Int) ≤ 5; omega⟩, by show (k : Int) ≤ m; omega, hlt.2⟩)
  have hxo : Hid (okFlag ((k : Int), ((m : Int), onE e (seqI k ++ L)))) := Lib.hid ⟨okN (by omega), okN (by omega), onE_ok _ _⟩
  have hpt : Hid (fAlike ((k : Int), ((m : Int), onE e (seqI k ++ L))) f = ptB k e f L) := Lib.hid (by
    unfold fAlike ptB
    rw [hm2, hfk]
    simp [leastF])
  have HV := Lib.hid hV
  have HL := Lib.hid hv
  have HF := Lib.hid hf
  have HFO := Lib.hid hfo
  have HM2 : Hid ((m : Int) = f.2.1) := Lib.hid hm2.symm
  obtain ⟨g0, g1, g2⟩ := blkc3 hg
  obtain ⟨h0, h1, h2⟩ := blkc3 hff
  have yg := blklt hg
  have yf := blklt hff
  have ym := blklt hm
  have KG := Lib.hid hg
  have KF := Lib.hid hff
  have KM := Lib.hid hm
  obtain ⟨A, cap, rfl, _, _⟩ := lstI hv
  obtain ⟨hgm1, hgm2⟩ := hgm
  have HFK := Lib.hid hfk
  clear hfk hfl hV hlt hlen hv hf hfo hg hff hm hm2 hl
  go_enter Tryz.func229, Tryz.ntmps229
  go_wp2_with fail
  (refine wp_region_held_drew (S := (fun w' => w'.cell? ⟨bg, 0, none⟩ = some (.int .i64 k) ∧ w'.cell? ⟨bg, 1, none⟩ = some (.int .i64 n) ∧ w'.cell? ⟨bg, 2, none⟩ = some (.int .u32 e) ∧ w'.cell? ⟨bf, 0, none⟩ = some (.int .i64 f.1) ∧ w'.cell? ⟨bf, 1, none⟩ = some (.int .i64 f.2.1) ∧ w'.cell? ⟨bf, 2, none⟩ = some (.int .u32 f.2.2))) (by kernel_rfl) ?_ (fun hHeld => ?_); (focus (first | (simp [*, go_sem]; done) | fail)); refine rt 0 (some 5) (v := ?_) rfl rfl ?_ ?_; rotate_left; (focus (intro w' hSw; (try dsimp only at hSw); go_simp; (try with_reducible rfl))); (try simp only [Act.put, nA, nB, nC]); refine rt 1 (some 6) (v := ?_) rfl rfl ?_ ?_; rotate_left; (focus (intro w' hSw; (try dsimp only at hSw); go_simp; (try with_reducible rfl))); (try simp only [Act.put, nA, nB, nC]); refine rt 3 (some 8) (v := ?_) rfl rfl ?_ ?_; rotate_left; (focus (intro w' hSw; (try dsimp only at hSw); go_simp; (try with_reducible rfl))); (try simp only [Act.put, nA, nB, nC]); refine wpAnyH_ready (rs := [2]) (by kernel_rfl) (by simp) ?_; refine AllReadyH.cons rfl (fun K hK => ?_) AllReadyH.nil; go_simp; (go_at_call 105; refine Calls.mono (fOn_any _ k n m e L _ (by omega) (HL.out.below belA) HV.out hlm) ?_; rintro e0 w1 ⟨rfl, hb⟩; have HB1 := Lib.hid (show Below W.heap.size W w1 from Below.trans belA (hb.mono (by simp))); have m0 := bkeep hb hHeld.1; have m1 := bkeep hb hHeld.2.1; have m2 := bkeep hb hHeld.2.2.1; have m3 := bkeep hb hHeld.2.2.2.1; have m4 := bkeep hb hHeld.2.2.2.2.1; have m5 := bkeep hb hHeld.2.2.2.2.2; clear hb); go_wp2_with fail; refine hK.out _ _ ?_ (fun hHeld => ?_); (focus (first | (simp [*, go_sem]; done) | fail)); clear hK K; (try simp only [Act.put, nA, nB, nC]); refine wpAnyH_ready (rs := [4]) (by kernel_rfl) (by simp) ?_; refine AllReadyH.cons rfl (fun K hK => ?_) AllReadyH.nil; go_simp; (go_at_call 106; refine Calls.mono (falike_any _ ((k : Int), ((m : Int), onE e (seqI k ++ L))) f hx.out HF.out hxo.out HFO.out HM2.out) ?_; rw [hpt.out]; rintro e0 w2 ⟨rfl, hb⟩; have HB2 := Lib.hid (HB1.out.trans (hb.mono HB1.out.size)); have n0 := bkeep hb m0; have n1 := bkeep hb m1; have n2 := bkeep hb m2; have n3 := bkeep hb m3; have n4 := bkeep hb m4; have n5 := bkeep hb m5; clear hb); go_wp2_with fail; refine hK.out _ _ ?_ (fun hHeld => ?_); (focus (first | (simp [*, go_sem]; done) | fail)); clear hK K; (try simp only [Act.put, nA, nB, nC]); refine wpAnyH_done (by kernel_rfl) ?_ _)
  clear hHeld
  have km := bblk HB2.out ym KM.out
  obtain ⟨q0, q1⟩ := blk1 km
  have yq := blklt km
  have KM2 := Lib.hid km
  clear km
  cases hp : ptB k e f L
  · have hst : Hid (ctStep k e f s L = s) := Lib.hid (by unfold ctStep; rw [hp]; rfl)
    go_wp2_with fail
    have hb2 := HB2.out
    exact bodyPost_end (v := .tuple #[]) (by simp [results, Tryz.results229, go_sem]) rfl ⟨rfl, ⟨bblk hb2 yg KG.out, bblk hb2 yf KF.out, by rw [hst.out]; exact KM2.out⟩, Chg.of hb2 _⟩
  · have hst : Hid (ctStep k e f s L = wrap64 (s + 1)) := Lib.hid (by unfold ctStep; rw [hp]; rfl)
    go_wp2_with fail
    have hb2 := HB2.out
    exact bodyPost_end (v := .tuple #[]) (by simp [results, Tryz.results229, go_sem]) rfl ⟨rfl, ⟨blkset (bblk hb2 yg KG.out) hgm1 _, blkset (bblk hb2 yf KF.out) hgm2 _, by rw [hst.out]; exact blkset1 KM2.out _⟩, Chg.set (Chg.of hb2 _) (by simp) _⟩
set_option maxHeartbeats 1000000 in
theorem countIn_any (w : World) (k n : Nat) (e : Int) (f : Flg) (hk : k ≤ 3) (hkn : k ≤ n) (hn : n ≤ 5) (he : okI .u32 e) (hf : flV f = true) (hfo : okFlag f) (hfk : f.1 = k) (hfn : f.2.1 ≤ n) :
    Calls Tryz.prog 202 #[.agg #[.int .i64 f.1, .int .i64 f.2.1, .int .u32 f.2.2], .agg #[.int .i64 k, .int .i64 n, .int .u32 e]] w fun r w' => r = .returned (.int .i64 (ctF k n e f)) ∧ Below w.heap.size w w' := by
  have hfl := (flV_iff _).1 hf
  obtain ⟨m, hm2⟩ := Int.eq_ofNat_of_zero_le hfl.2.1.1
  have hkm : k ≤ m := by have := hfl.2.2.1; omega
  have hmn : m ≤ n := by omega
  have hmt : f.2.1.toNat = m := by rw [hm2]; rfl
  have hfree : Hid (f.2.1 - f.1 = ((m - k : Nat) : Int)) := Lib.hid (by omega)
  have hct : Hid ((chs (othI k n) (m - k) 0 []).foldl (ctStep k e f) 0 = ctF k n e f) := Lib.hid (by
    have := ct_fold k e f (chs (othI k n) (m - k) 0 []) 0 (by have := (chs_oks k hk n hn (m - k) (by omega)).2; omega)
    rw [show (((0 : Nat) : Int)) = 0 from rfl] at this
    rw [this, ctF, hmt]
    congr 1
    omega)
  have HF := Lib.hid hf
  have HFO := Lib.hid hfo
  have HFK := Lib.hid hfk
  have HMT := Lib.hid hmt
  have eg : ∀ args w, (callFunc 229 args).run Tryz.prog w = .ok (.enter 229 args) w := enters_of Tryz.func229 (by kernel_rfl) rfl
  have hb1 : 0 ≤ f.1 ∧ f.1 ≤ 5 := by omega
  have hb2 : 0 ≤ f.2.1 ∧ f.2.1 ≤ 5 := by omega
  have HD : Hid (Does 229 #[.pointer (some ⟨w.heap.size + 1, 0, none⟩), .pointer (some ⟨w.heap.size, 0, none⟩), .pointer (some ⟨w.heap.size + 1 + 1, 0, none⟩)] (w.heap.size + 1 + 1 + 1) [w.heap.size + 1 + 1]
      (fun (s : Int) (W : World) => W.heap[w.heap.size + 1]? = some (.cells #[.int .i64 k, .int .i64 n, .int .u32 e] 81 (0, 0)) ∧ W.heap[w.heap.size]? = some (.cells #[.int .i64 f.1, .int .i64 f.2.1, .int .u32 f.2.2] 81 (0, 0)) ∧ W.heap[w.heap.size + 1 + 1]? = some (.cells #[.int .i64 s] 2 (0, 0)))
      (ctStep k e f) (fun L => VL (seqI k ++ L) ∧ L.length = m - k)) := Lib.hid
    { enters := eg
      keep := fun s W W' h hb => ⟨bblk hb (blklt h.1) h.1, bblk hb (blklt h.2.1) h.2.1, bblk hb (blklt h.2.2) h.2.2⟩
      call := fun s W L v h hI hB hv => countIn1 W _ _ _ k n e f s L v h.1 (by rw [h.2, HMT.out]; omega) hk HF.out HFO.out HFK.out hI.1 hI.2.1 hI.2.2 ⟨by omega, by omega⟩ hv.lst
      lt := by simp }
  have HOK := Lib.hid (chs_ok (k := k) (n := n) (q := m - k) hk hn (by omega))
  clear hfl hm2 hmt hf hfo hfk hfn
  go_enter Tryz.func202, Tryz.ntmps202
  go_wp2_with fail
  (refine wp_region_held_drew (S := (fun w' => w'.cell? ⟨w.heap.size, 0, none⟩ = some (.int .i64 f.1) ∧ w'.cell? ⟨w.heap.size, 1, none⟩ = some (.int .i64 f.2.1) ∧ w'.cell? ⟨w.heap.size, 2, none⟩ = some (.int .u32 f.2.2) ∧ w'.cell? ⟨w.heap.size + 1, 0, none⟩ = some (.int .i64 k) ∧ w'.cell? ⟨w.heap.size + 1, 1, none⟩ = some (.int .i64 n) ∧ w'.cell? ⟨w.heap.size + 1, 2, none⟩ = some (.int .u32 e))) (by kernel_rfl) ?_ (fun hHeld => ?_); (focus (first | (simp [*, go_sem]; done) | fail)); refine rt 0 (some 6) (v := ?_) rfl rfl ?_ ?_; rotate_left; (focus (intro w' hSw; (try dsimp only at hSw); go_simp; (try with_reducible rfl))); (try simp only [Act.put, nA, nB, nC]); refine rt 2 (some 8) (v := ?_) rfl rfl ?_ ?_; rotate_left; (focus (intro w' hSw; (try dsimp only at hSw); go_simp; (try with_reducible rfl))); (try simp only [Act.put, nA, nB, nC]); refine rt 4 (some 10) (v := ?_) rfl rfl ?_ ?_; rotate_left; (focus (intro w' hSw; (try dsimp only at hSw); go_simp; (try with_reducible rfl))); (try simp only [Act.put, nA, nB, nC]); refine wpAnyH_ready (rs := [1]) (by kernel_rfl) (by simp) ?_; refine AllReadyH.cons rfl (fun K hK => ?_) AllReadyH.nil; go_simp; (go_at_call 102; refine Calls.mono (others_any _ k n e hkn hn) ?_; rintro e0 w1 ⟨g, o, c, rfl, hg, hL, hb⟩; have m0 := bkeep hb hHeld.1; have m1 := bkeep hb hHeld.2.1; have m2 := bkeep hb hHeld.2.2.1; have m3 := bkeep hb hHeld.2.2.2.1; have m4 := bkeep hb hHeld.2.2.2.2.1; have m5 := bkeep hb hHeld.2.2.2.2.2; have km := (hb.block (w.heap.size + 1 + 1) (by simp)).trans (show (((w.alloc _).alloc _).alloc _).heap[w.heap.size + 1 + 1]? = _ from blknew' _ _ _ (by simp)); have kg := (hb.block (w.heap.size + 1) (by simp)).trans (show (((w.alloc _).alloc _).alloc _).heap[w.heap.size + 1]? = some (.cells #[.int .i64 k, .int .i64 n, .int .u32 e] 81 (0, 0)) from blkA); have kf := (hb.block w.heap.size (by simp <;> omega)).trans (show (((w.alloc _).alloc _).alloc _).heap[w.heap.size]? = some (.cells #[.int .i64 f.1, .int .i64 f.2.1, .int .u32 f.2.2] 81 (0, 0)) from blkA); have KM := Lib.hid km; have KG := Lib.hid kg; have KF := Lib.hid kf; have HL := Lib.hid hL; have HB1 := Lib.hid (show Below w.heap.size w w1 from Below.trans belA (hb.mono (by simp <;> omega))); have hz1 := hb.size; have hg2 : w.heap.size + 1 + 1 < g := (by simp at hg; omega); clear hb hL km kg kf hg); go_wp2_with fail; refine hK.out _ _ ?_ (fun hHeld => ?_); (focus (first | (simp [*, go_sem]; done) | fail)); clear hK K; (try simp only [Act.put, nA, nB, nC]); refine wpAnyH_ready (rs := [3]) (by kernel_rfl) (by simp) ?_; refine AllReadyH.cons rfl (fun K hK => ?_) AllReadyH.nil; go_simp; (go_at_call 103; refine Calls.mono (ffree_any _ f hb1 hb2) ?_; rw [hfree.out]; rintro e0 w2 ⟨rfl, hb⟩; have n0 := bkeep hb m0; have n1 := bkeep hb m1; have n2 := bkeep hb m2; have n3 := bkeep hb m3; have n4 := bkeep hb m4; have n5 := bkeep hb m5; have KM2 := Lib.hid (bblk hb (blklt KM.out) KM.out); have KG2 := Lib.hid (bblk hb (blklt KG.out) KG.out); have KF2 := Lib.hid (bblk hb (blklt KF.out) KF.out); have HL2 := Lib.hid (HL.out.below hb); have HB2 := Lib.hid (HB1.out.trans (hb.mono HB1.out.size)); clear hb); go_wp2_with fail; refine hK.out _ _ ?_ (fun hHeld => ?_); (focus (first | (simp [*, go_sem]; done) | fail)); clear hK K; (try simp only [Act.put, nA, nB, nC]); refine wpAnyH_ready (rs := [5]) (by kernel_rfl) (by simp) ?_; refine AllReadyH.cons rfl (fun K hK => ?_) AllReadyH.nil; go_simp; (refine Calls.mono (chosen_any HD.out (othI k n) g o (n - k) c (m - k) (by rw [othI_len]; omega) (by omega) _ 0 (by have := blklt KM2.out; omega) (by simp; omega) HL2.out ⟨KG2.out, KF2.out, KM2.out⟩ HOK.out) ?_; rw [hct.out]; rintro e0 w3 ⟨rfl, ⟨k1, k2, k3⟩, hC⟩; obtain ⟨p3, p4, p5⟩ := blkc3 k1; obtain ⟨p0, p1, p2⟩ := blkc3 k2; have q0 := (blk1 k3).1; have yq := blklt k3; have HB3 := Lib.hid (HB2.out.trans (hC.below (B := w.heap.size) (by simp; omega) HB2.out.size)); clear k1 k2 k3 hC); go_wp2_with fail; refine hK.out _ _ ?_ (fun hHeld => ?_); (focus (first | (simp [*, go_sem]; done) | fail)); clear hK K; (try simp only [Act.put, nA, nB, nC]); refine wpAnyH_done (by kernel_rfl) ?_ _)
  clear hHeld
  have hb3 := HB3.out
  go_wp2_with fail
  exact bodyPost_ret (v := .int .i64 (ctF k n e f)) (by simp [results, Tryz.results202, go_sem]) rfl ⟨rfl, belA⟩
/-- The density of a flag in another one. -/
def dnC (k n m : Nat) : Int := chI ((n - k : Nat) : Int) (m - k)
def dns (k n : Nat) (e : Int) (f : Flg) : Int × Int := (lowP (ctF k n e f) (dnC k n f.2.1.toNat), lowQ (ctF k n e f) (dnC k n f.2.1.toNat))
theorem dnC_bd {k n m : Nat} (hkm : k ≤ m) (hmn : m ≤ n) (hn : n ≤ 5) : 1 ≤ dnC k n m ∧ dnC k n m ≤ 10 := by
  have h : ∀ n ≤ 5, ∀ i ≤ n, 1 ≤ chI ((n : Nat) : Int) i ∧ chI ((n : Nat) : Int) i ≤ 10 := by decide
  exact h (n - k) (by omega) (m - k) (by omega)
theorem ctF_bd {k n : Nat} {e : Int} {f : Flg} (hk : k ≤ 3) (hn : n ≤ 5) (hm : f.2.1.toNat - k ≤ 5) : 0 ≤ ctF k n e f ∧ ctF k n e f ≤ 100 := by
  have h1 := (chs_oks k hk n hn (f.2.1.toNat - k) hm).2
  have h2 : (chs (othI k n) (f.2.1.toNat - k) 0 []).countP (ptB k e f) ≤ (chs (othI k n) (f.2.1.toNat - k) 0 []).length := List.countP_le_length
  unfold ctF
  omega
set_option maxHeartbeats 1000000 in
theorem density_any (w : World) (k n : Nat) (e : Int) (f : Flg) (hk : k ≤ 3) (hkn : k ≤ n) (hn : n ≤ 5) (he : okI .u32 e) (hf : flV f = true) (hfo : okFlag f) (hfk : f.1 = k) (hfn : f.2.1 ≤ n) :
    Calls Tryz.prog 154 #[.agg #[.int .i64 f.1, .int .i64 f.2.1, .int .u32 f.2.2], .agg #[.int .i64 k, .int .i64 n, .int .u32 e]] w fun r w' => r = .returned (.agg #[.int .i64 (dns k n e f).1, .int .i64 (dns k n e f).2]) ∧ Below w.heap.size w w' := by
  have hfl := (flV_iff _).1 hf
  obtain ⟨m, hm2⟩ := Int.eq_ofNat_of_zero_le hfl.2.1.1
  have hkm : k ≤ m := by have := hfl.2.2.1; omega
  have hmn : m ≤ n := by omega
  have hmt : f.2.1.toNat = m := by rw [hm2]; rfl
  have hfree : Hid (f.2.1 - f.1 = ((m - k : Nat) : Int)) := Lib.hid (by omega)
  have hfree2 : Hid ((n : Int) - (k : Int) = ((n - k : Nat) : Int)) := Lib.hid (by omega)
  obtain ⟨d1, d2⟩ := dnC_bd hkm hmn hn
  obtain ⟨c1, c2⟩ := ctF_bd (k := k) (n := n) (e := e) (f := f) hk hn (by omega)
  obtain ⟨C, hC⟩ : ∃ C, Hid (ctF k n e f = C) := ⟨_, Lib.hid rfl⟩
  obtain ⟨Q, hQ⟩ : ∃ Q, Hid (dnC k n m = Q) := ⟨_, Lib.hid rfl⟩
  have HCT : Hid (∀ w, Calls Tryz.prog 202 #[.agg #[.int .i64 f.1, .int .i64 f.2.1, .int .u32 f.2.2], .agg #[.int .i64 k, .int .i64 n, .int .u32 e]] w fun r w' => r = .returned (.int .i64 C) ∧ Below w.heap.size w w') := Lib.hid fun w => by
    have := countIn_any w k n e f hk hkn hn he hf hfo hfk hfn
    rw [hC.out] at this
    exact this
  have HCH : Hid (∀ w, Calls Tryz.prog 203 #[.int .i64 ((n - k : Nat) : Int), .int .i64 ((m - k : Nat) : Int)] w fun r w' => r = .returned (.int .i64 Q) ∧ Below w.heap.size w w') := Lib.hid fun w => by
    have := choices_any w (n - k) (m - k) (by omega) (by omega)
    rw [show chI ((n - k : Nat) : Int) (m - k) = Q from hQ.out] at this
    exact this
  have hr : Hid (dns k n e f = (lowP C Q, lowQ C Q)) := Lib.hid (by unfold dns; rw [hmt, hC.out, hQ.out])
  rw [hC.out] at c1 c2
  rw [hQ.out] at d1 d2
  have hb1 : 0 ≤ f.1 ∧ f.1 ≤ 5 := by omega
  have hb2 : 0 ≤ f.2.1 ∧ f.2.1 ≤ 5 := by omega
  have hgf : Hid (∀ w, Calls Tryz.prog 103 #[.agg #[.int .i64 k, .int .i64 n, .int .u32 e]] w fun r w' => r = .returned (.int .i64 ((n - k : Nat) : Int)) ∧ Below w.heap.size w w') := Lib.hid fun w => by
    have := ffree_any w ((k : Int), ((n : Int), e)) (by show (0 : Int) ≤ k ∧ (k : Int) ≤ 5; omega) (by show (0 : Int) ≤ n ∧ (n : Int) ≤ 5; omega)
    rw [show (((k : Int), ((n : Int), e)) : Flg).2.1 - (((k : Int), ((n : Int), e)) : Flg).1 = ((n - k : Nat) : Int) from hfree2.out] at this
    exact this
  have HD : 0 ≤ dnC k n m := by rw [hQ.out]; omega
  clear hfl hm2 hmt hf hfo hfk hfn HD
  go_enter Tryz.func154, Tryz.ntmps154
  go_wp2_with fail
  (refine wp_region_held_drew (S := (fun w' => w'.cell? ⟨w.heap.size, 0, none⟩ = some (.int .i64 f.1) ∧ w'.cell? ⟨w.heap.size, 1, none⟩ = some (.int .i64 f.2.1) ∧ w'.cell? ⟨w.heap.size, 2, none⟩ = some (.int .u32 f.2.2) ∧ w'.cell? ⟨w.heap.size + 1, 0, none⟩ = some (.int .i64 k) ∧ w'.cell? ⟨w.heap.size + 1, 1, none⟩ = some (.int .i64 n) ∧ w'.cell? ⟨w.heap.size + 1, 2, none⟩ = some (.int .u32 e))) (by kernel_rfl) ?_ (fun hHeld => ?_); (focus (first | (simp [*, go_sem]; done) | fail)); refine rt 0 (some 5) (v := ?_) rfl rfl ?_ ?_; rotate_left; (focus (intro w' hSw; (try dsimp only at hSw); go_simp; (try with_reducible rfl))); (try simp only [Act.put, nA, nB, nC]); refine rt 1 (some 6) (v := ?_) rfl rfl ?_ ?_; rotate_left; (focus (intro w' hSw; (try dsimp only at hSw); go_simp; (try with_reducible rfl))); (try simp only [Act.put, nA, nB, nC]); refine rt 3 (some 8) (v := ?_) rfl rfl ?_ ?_; rotate_left; (focus (intro w' hSw; (try dsimp only at hSw); go_simp; (try with_reducible rfl))); (try simp only [Act.put, nA, nB, nC]); refine rt 5 (some 10) (v := ?_) rfl rfl ?_ ?_; rotate_left; (focus (intro w' hSw; (try dsimp only at hSw); go_simp; (try with_reducible rfl))); (try simp only [Act.put, nA, nB, nC]); refine wpAnyH_ready (rs := [2]) (by kernel_rfl) (by simp) ?_; refine AllReadyH.cons rfl (fun K hK => ?_) AllReadyH.nil; go_simp; (go_at_call 202; refine Calls.mono (HCT.out _) ?_; rintro e w1 ⟨rfl, hb⟩; obtain ⟨X1, m1, rfl⟩ := plsOf hb; clear hb); go_wp2_with fail; refine hK.out _ _ ?_ (fun hHeld => ?_); (focus (first | (simp [*, go_sem]; done) | fail)); clear hK K; (try simp only [Act.put, nA, nB, nC]); refine wpAnyH_ready (rs := [4]) (by kernel_rfl) (by simp) ?_; refine AllReadyH.cons rfl (fun K hK => ?_) AllReadyH.nil; go_simp; (go_at_call 103; refine Calls.mono (hgf.out _) ?_; rintro e w1 ⟨rfl, hb⟩; obtain ⟨X2, m2, rfl⟩ := plsOf hb; clear hb); go_wp2_with fail; refine hK.out _ _ ?_ (fun hHeld => ?_); (focus (first | (simp [*, go_sem]; done) | fail)); clear hK K; (try simp only [Act.put, nA, nB, nC]); refine wpAnyH_ready (rs := [6]) (by kernel_rfl) (by simp) ?_; refine AllReadyH.cons rfl (fun K hK => ?_) AllReadyH.nil; go_simp; (go_at_call 103; refine Calls.mono (ffree_any _ f hb1 hb2) ?_; rw [hfree.out]; rintro e0 w3 ⟨rfl, hb⟩; obtain ⟨X3, m3, rfl⟩ := plsOf hb; clear hb); go_wp2_with fail; refine hK.out _ _ ?_ (fun hHeld => ?_); (focus (first | (simp [*, go_sem]; done) | fail)); clear hK K; (try simp only [Act.put, nA, nB, nC]); refine wpAnyH_ready (rs := [7]) (by kernel_rfl) (by simp) ?_; refine AllReadyH.cons rfl (fun K hK => ?_) AllReadyH.nil; go_simp; (go_at_call 203; refine Calls.mono (HCH.out _) ?_; rintro e w1 ⟨rfl, hb⟩; obtain ⟨X4, m4, rfl⟩ := plsOf hb; clear hb); go_wp2_with fail; refine hK.out _ _ ?_ (fun hHeld => ?_); (focus (first | (simp [*, go_sem]; done) | fail)); clear hK K; (try simp only [Act.put, nA, nB, nC]); refine wpAnyH_ready (rs := [8]) (by kernel_rfl) (by simp) ?_; refine AllReadyH.cons rfl (fun K hK => ?_) AllReadyH.nil; go_simp; (go_at_call 100; refine Calls.mono (lowest_any C Q _ (by omega) (by omega) (by omega) (by omega) (by omega)) ?_; rintro e w1 ⟨rfl, hb⟩; obtain ⟨X5, m5, rfl⟩ := plsOf hb; clear hb); go_wp2_with fail; refine hK.out _ _ ?_ (fun hHeld => ?_); (focus (first | (simp [*, go_sem]; done) | fail)); clear hK K; (try simp only [Act.put, nA, nB, nC]); refine wpAnyH_ready (rs := [9]) (by kernel_rfl) (by simp) ?_; refine AllReadyH.cons rfl (fun K hK => ?_) AllReadyH.nil; (try go_simp); refine hK.out _ _ ?_ (fun hHeld => ?_); (focus (first | (simp [*, go_sem]; done) | fail)); clear hK K; (try simp only [Act.put, nA, nB, nC]); refine wpAnyH_done (by kernel_rfl) ?_ _)
  clear hHeld
  go_wp2_with fail
  exact bodyPost_ret (v := .agg #[.int .i64 (lowP C Q), .int .i64 (lowQ C Q)]) (by simp [results, Tryz.results154, go_sem]) rfl ⟨by rw [hr.out], belA⟩
end Go.Proofs.YtpcjinbbgnmchaaGreat

import Derived.Test.YtekchdgpaemofaaGreatYyAl
import Derived.Test.YtekchdgpaemofaaGreatYySl
namespace Go.Proofs.YtekchdgpaemofaaGreat
open Go.ChangeShapes Go.WideShapes Go.RowKit
set_option linter.unusedVariables false
set_option linter.unusedSimpArgs false
attribute [local irreducible] Calls
theorem alike1 (W : World) (bg bh n : Nat) (e f : Int) (L : List Int) (v : Value) (hL : VL L) (hlen : L.length = n) (hg : W.heap[bg]? = some (.cells #[.int .i64 n, .int .u32 e] 28 (0, 0))) (hh : W.heap[bh]? = some (.cells #[.int .i64 n, .int .u32 f] 28 (0, 0))) (hv : Lst (shI .i64) W L v) :
    Calls Tryz.prog 289 #[v, .pointer (some ⟨bg, 0, none⟩), .pointer (some ⟨bh, 0, none⟩)] W fun e0 W' => e0 = .returned (.bool (onE e L == f)) ∧ Below W.heap.size W W' := by
  obtain ⟨s0, s1, f0, f1⟩ := blk2 hg
  obtain ⟨s2, s3, f2, f3⟩ := blk2 hh
  have z0 := blklt hg
  have z1 := blklt hh
  have HV := Lib.hid hv
  have HL := Lib.hid hL
  have HN := Lib.hid hlen
  clear hL hlen hg hh hv
  go_enter Tryz.func289, Tryz.ntmps289
  go_wp2_with fail
  (refine wp_region_held_drew (S := (fun w' => w'.cell? ⟨bg, 0, none⟩ = some (.int .i64 n) ∧ w'.cell? ⟨bg, 1, none⟩ = some (.int .u32 e) ∧ w'.cell? ⟨bh, 0, none⟩ = some (.int .i64 n) ∧ w'.cell? ⟨bh, 1, none⟩ = some (.int .u32 f))) (by kernel_rfl) ?_ (fun hHeld => ?_); (focus (simp [*, go_sem])); refine rt 0 (some 5) (v := ?_) rfl rfl ?_ ?_; rotate_left; (focus (intro w' hSw; (try dsimp only at hSw); go_simp; (try with_reducible rfl))); (try simp only [Act.put, nA, nB, nC]); refine rt 1 (some 6) (v := ?_) rfl rfl ?_ ?_; rotate_left; (focus (intro w' hSw; (try dsimp only at hSw); go_simp; (try with_reducible rfl))); (try simp only [Act.put, nA, nB, nC]); refine rt 3 (some 8) (v := ?_) rfl rfl ?_ ?_; rotate_left; (focus (intro w' hSw; (try dsimp only at hSw); go_simp; (try with_reducible rfl))); (try simp only [Act.put, nA, nB, nC]); refine wpAnyH_ready (rs := [2]) (by kernel_rfl) (by simp) ?_; refine AllReadyH.cons rfl (fun K hK => ?_) AllReadyH.nil; go_simp; (go_at_call 140; refine Calls.mono (on_any _ n e L v (HV.out.below belA) HL.out) ?_; rw [HN.out]; rintro e0 w1 ⟨rfl, hb⟩; obtain ⟨X8, m8, rfl⟩ := plsOf hb; clear hb); go_wp2_with fail; refine hK.out _ _ ?_ (fun hHeld => ?_); (focus (simp [*, go_sem])); clear hK K; (try simp only [Act.put, nA, nB, nC]); refine rt 4 (some 9) (v := ?_) rfl rfl ?_ ?_; rotate_left; (focus (intro w' hSw; (try dsimp only at hSw); go_simp; (try with_reducible rfl))); (try simp only [Act.put, nA, nB, nC]); refine rt 5 (some 4) (v := ?_) rfl rfl ?_ ?_; rotate_left; (focus (intro w' hSw; (try dsimp only at hSw); go_simp; (try with_reducible rfl))); (try simp only [Act.put, nA, nB, nC]); refine wpAnyH_done (by kernel_rfl) ?_ _)
  clear hHeld
  go_wp2_with fail
  exact bodyPost_ret (v := .bool (eq2 n (onE e L) n f)) (by simp [results, Tryz.results289, go_sem]) rfl ⟨by rw [show eq2 (n : Int) (onE e L) n f = (onE e L == f) by rw [Bool.eq_iff_iff]; simp [eq2]], belA⟩
set_option maxRecDepth 100000 in
theorem galike_any (w : World) (n q : Nat) (e f : Int) (hn : n ≤ 5) (hq : q ≤ n) (h0 : 0 ≤ e) (he : e < limN n) (g0 : 0 ≤ f) (hf : f < limN n) :
    Calls Tryz.prog 271 #[.agg #[.int .i64 n, .int .u32 e], .agg #[.int .i64 n, .int .u32 f], .int .i64 q] w fun e0 w' => e0 = .returned (.bool (alikeB n q e f)) ∧ Below w.heap.size w w' := by
  have hlim : limN n ≤ 1024 := by
    have : n = 0 ∨ n = 1 ∨ n = 2 ∨ n = 3 ∨ n = 4 ∨ n = 5 := by omega
    rcases this with rfl | rfl | rfl | rfl | rfl | rfl <;> decide
  cases hne : (onesT e != onesT f)
  · have HNE := Lib.hid hne
    clear hne
    have eg : ∀ args w, (callFunc 289 args).run Tryz.prog w = .ok (.enter 289 args) w := enters_of Tryz.func289 (by kernel_rfl) rfl
    have HH : ∀ bg bh : Nat, Hands 289 #[.pointer (some ⟨bg, 0, none⟩), .pointer (some ⟨bh, 0, none⟩)] 0 [] (fun (_ : Unit) (W : World) => W.heap[bg]? = some (.cells #[.int .i64 n, .int .u32 e] 28 (0, 0)) ∧ W.heap[bh]? = some (.cells #[.int .i64 n, .int .u32 f] 28 (0, 0))) (fun L => onE e L == f) (fun u _ => u) (fun L => VL L ∧ L.length = n) := fun bg bh =>
      { enters := eg
        keep := fun s W W' h hb => ⟨(hb.block _ (blklt h.1)).trans h.1, (hb.block _ (blklt h.2)).trans h.2⟩
        call := fun s W L v h hI hB hv => (alike1 W bg bh n e f L v h.1 h.2 hI.1 hI.2 hv).mono fun e0 W' ⟨h1, h2⟩ => ⟨h1, ⟨(h2.block _ (blklt hI.1)).trans hI.1, (h2.block _ (blklt hI.2)).trans hI.2⟩, Chg.of h2 _⟩
        lt := by simp }
    have HHH := Lib.hid HH
    clear HH
    have HO := Lib.hid (lsts_ok hn hq)
    have hres : Hid ((handed (fun L => onE e L == f) (fun (u : Unit) _ => u) (lsts n (n - q) (seqI q)) ()).1 = alikeB n q e f) := Lib.hid (handed_any _ _)
    go_enter Tryz.func271, Tryz.ntmps271
    go_wp2_with fail
    (refine wp_region_held_drew (S := (fun w' => w'.cell? ⟨w.heap.size, 0, none⟩ = some (.int .i64 n) ∧ w'.cell? ⟨w.heap.size, 1, none⟩ = some (.int .u32 e) ∧ w'.cell? ⟨w.heap.size + 1, 0, none⟩ = some (.int .i64 n) ∧ w'.cell? ⟨w.heap.size + 1, 1, none⟩ = some (.int .u32 f))) (by kernel_rfl) ?_ (fun hHeld => ?_); (focus (simp [*, go_sem])); refine rt 0 (some 7) (v := ?_) rfl rfl ?_ ?_; rotate_left; (focus (intro w' hSw; (try dsimp only at hSw); go_simp; (try with_reducible rfl))); (try simp only [Act.put, nA, nB, nC]); refine rt 1 (some 8) (v := ?_) rfl rfl ?_ ?_; rotate_left; (focus (intro w' hSw; (try dsimp only at hSw); go_simp; (try with_reducible rfl))); (try simp only [Act.put, nA, nB, nC]); refine rt 2 (some 9) (v := ?_) rfl rfl ?_ ?_; rotate_left; (focus (intro w' hSw; (try dsimp only at hSw); go_simp; (try with_reducible rfl))); (try simp only [Act.put, nA, nB, nC]); refine rt 3 (some 10) (v := ?_) rfl rfl ?_ ?_; rotate_left; (focus (intro w' hSw; (try dsimp only at hSw); go_simp; (try with_reducible rfl))); (try simp only [Act.put, nA, nB, nC]); refine rt 4 (some 11) (v := ?_) rfl rfl ?_ ?_; rotate_left; (focus (intro w' hSw; (try dsimp only at hSw); go_simp; (try with_reducible rfl))); (try simp only [Act.put, nA, nB, nC]); refine rt 5 (some 12) (v := ?_) rfl rfl ?_ ?_; rotate_left; (focus (intro w' hSw; (try dsimp only at hSw); go_simp; (try with_reducible rfl))); (try simp only [Act.put, nA, nB, nC]); refine rt 6 (some 13) (v := ?_) rfl rfl ?_ ?_; rotate_left; (focus (intro w' hSw; (try dsimp only at hSw); go_simp; (try with_reducible rfl))); (try simp only [Act.put, nA, nB, nC]); refine rt 7 (some 14) (v := ?_) rfl rfl ?_ ?_; rotate_left; (focus (intro w' hSw; (try dsimp only at hSw); go_simp; (try with_reducible rfl))); (try simp only [Act.put, nA, nB, nC]); refine rt 9 (some 16) (v := ?_) rfl rfl ?_ ?_; rotate_left; (focus (intro w' hSw; (try dsimp only at hSw); go_simp; (try with_reducible rfl))); (try simp only [Act.put, nA, nB, nC]); refine rt 10 (some 17) (v := ?_) rfl rfl ?_ ?_; rotate_left; (focus (intro w' hSw; (try dsimp only at hSw); go_simp; (try with_reducible rfl))); (try simp only [Act.put, nA, nB, nC]); refine wpAnyH_ready (rs := [8]) (by kernel_rfl) (by simp) ?_; refine AllReadyH.cons rfl (fun K hK => ?_) AllReadyH.nil; go_simp; (go_at_call 288; refine Calls.mono (ones_any e _ h0 (by omega)) ?_; rintro e w1 ⟨rfl, hb⟩; obtain ⟨X1, m1, rfl⟩ := plsOf hb; clear hb); go_wp2_with fail; refine hK.out _ _ ?_ (fun hHeld => ?_); (focus (simp [*, go_sem])); clear hK K; (try simp only [Act.put, nA, nB, nC]); refine wpAnyH_ready (rs := [11]) (by kernel_rfl) (by simp) ?_; refine AllReadyH.cons rfl (fun K hK => ?_) AllReadyH.nil; go_simp; (go_at_call 288; refine Calls.mono (ones_any f _ g0 (by omega)) ?_; rintro e w1 ⟨rfl, hb⟩; obtain ⟨X2, m2, rfl⟩ := plsOf hb; clear hb); go_wp2_with fail; refine hK.out _ _ ?_ (fun hHeld => ?_); (focus (simp [*, go_sem])); clear hK K; (try simp only [Act.put, nA, nB, nC]); refine rt 12 (some 19) (v := ?_) rfl rfl ?_ ?_; rotate_left; (focus (intro w' hSw; (try dsimp only at hSw); go_simp; (try with_reducible rfl))); (try simp only [Act.put, nA, nB, nC]); refine rt 13 (some 20) (v := ?_) rfl rfl ?_ ?_; rotate_left; (focus (intro w' hSw; (try dsimp only at hSw); go_simp; (try with_reducible rfl))); (try simp only [Act.put, nA, nB, nC]); refine wpAnyH_done (by kernel_rfl) ?_ _)
    clear hHeld
    have hne := HNE.out
    go_wp2_with (first | (go_at_call 263; refine Calls.mono (orders_any (HHH.out w.heap.size (w.heap.size + 1)) n q e (by omega) hq _ () (Nat.zero_le _) ⟨blkA, blkA⟩ HO.out) ?_; rintro e0 w1 ⟨rfl, _, hC⟩; rw [hres.out]; have hb := hC.below (B := _) (by simp) (Nat.le_refl _); obtain ⟨X5, m5, rfl⟩ := plsOf hb; clear hb hC))
    exact bodyPost_ret (v := .bool (alikeB n q e f)) (by simp [results, Tryz.results271, go_sem]) rfl ⟨rfl, belA⟩
  · have hr := Lib.hid (alike_ones hn hq h0 he (f := f) hne)
    go_enter Tryz.func271, Tryz.ntmps271
    go_wp2_with fail
    (refine wp_region_held_drew (S := (fun w' => w'.cell? ⟨w.heap.size, 0, none⟩ = some (.int .i64 n) ∧ w'.cell? ⟨w.heap.size, 1, none⟩ = some (.int .u32 e) ∧ w'.cell? ⟨w.heap.size + 1, 0, none⟩ = some (.int .i64 n) ∧ w'.cell? ⟨w.heap.size + 1, 1, none⟩ = some (.int .u32 f))) (by kernel_rfl) ?_ (fun hHeld => ?_); (focus (simp [*, go_sem])); refine rt 0 (some 7) (v := ?_) rfl rfl ?_ ?_; rotate_left; (focus (intro w' hSw; (try dsimp only at hSw); go_simp; (try with_reducible rfl))); (try simp only [Act.put, nA, nB, nC]); refine rt 1 (some 8) (v := ?_) rfl rfl ?_ ?_; rotate_left; (focus (intro w' hSw; (try dsimp only at hSw); go_simp; (try with_reducible rfl))); (try simp only [Act.put, nA, nB, nC]); refine rt 2 (some 9) (v := ?_) rfl rfl ?_ ?_; rotate_left; (focus (intro w' hSw; (try dsimp only at hSw); go_simp; (try with_reducible rfl))); (try simp only [Act.put, nA, nB, nC]); refine rt 3 (some 10) (v := ?_) rfl rfl ?_ ?_; rotate_left; (focus (intro w' hSw; (try dsimp only at hSw); go_simp; (try with_reducible rfl))); (try simp only [Act.put, nA, nB, nC]); refine rt 4 (some 11) (v := ?_) rfl rfl ?_ ?_; rotate_left; (focus (intro w' hSw; (try dsimp only at hSw); go_simp; (try with_reducible rfl))); (try simp only [Act.put, nA, nB, nC]); refine rt 5 (some 12) (v := ?_) rfl rfl ?_ ?_; rotate_left; (focus (intro w' hSw; (try dsimp only at hSw); go_simp; (try with_reducible rfl))); (try simp only [Act.put, nA, nB, nC]); refine rt 6 (some 13) (v := ?_) rfl rfl ?_ ?_; rotate_left; (focus (intro w' hSw; (try dsimp only at hSw); go_simp; (try with_reducible rfl))); (try simp only [Act.put, nA, nB, nC]); refine rt 7 (some 14) (v := ?_) rfl rfl ?_ ?_; rotate_left; (focus (intro w' hSw; (try dsimp only at hSw); go_simp; (try with_reducible rfl))); (try simp only [Act.put, nA, nB, nC]); refine rt 9 (some 16) (v := ?_) rfl rfl ?_ ?_; rotate_left; (focus (intro w' hSw; (try dsimp only at hSw); go_simp; (try with_reducible rfl))); (try simp only [Act.put, nA, nB, nC]); refine rt 10 (some 17) (v := ?_) rfl rfl ?_ ?_; rotate_left; (focus (intro w' hSw; (try dsimp only at hSw); go_simp; (try with_reducible rfl))); (try simp only [Act.put, nA, nB, nC]); refine wpAnyH_ready (rs := [8]) (by kernel_rfl) (by simp) ?_; refine AllReadyH.cons rfl (fun K hK => ?_) AllReadyH.nil; go_simp; (go_at_call 288; refine Calls.mono (ones_any e _ h0 (by omega)) ?_; rintro e w1 ⟨rfl, hb⟩; obtain ⟨X1, m1, rfl⟩ := plsOf hb; clear hb); go_wp2_with fail; refine hK.out _ _ ?_ (fun hHeld => ?_); (focus (simp [*, go_sem])); clear hK K; (try simp only [Act.put, nA, nB, nC]); refine wpAnyH_ready (rs := [11]) (by kernel_rfl) (by simp) ?_; refine AllReadyH.cons rfl (fun K hK => ?_) AllReadyH.nil; go_simp; (go_at_call 288; refine Calls.mono (ones_any f _ g0 (by omega)) ?_; rintro e w1 ⟨rfl, hb⟩; obtain ⟨X2, m2, rfl⟩ := plsOf hb; clear hb); go_wp2_with fail; refine hK.out _ _ ?_ (fun hHeld => ?_); (focus (simp [*, go_sem])); clear hK K; (try simp only [Act.put, nA, nB, nC]); refine rt 12 (some 19) (v := ?_) rfl rfl ?_ ?_; rotate_left; (focus (intro w' hSw; (try dsimp only at hSw); go_simp; (try with_reducible rfl))); (try simp only [Act.put, nA, nB, nC]); refine rt 13 (some 20) (v := ?_) rfl rfl ?_ ?_; rotate_left; (focus (intro w' hSw; (try dsimp only at hSw); go_simp; (try with_reducible rfl))); (try simp only [Act.put, nA, nB, nC]); refine wpAnyH_done (by kernel_rfl) ?_ _)
    clear hHeld
    go_wp2_with fail
    exact bodyPost_ret (v := .bool false) (by simp [results, Tryz.results271, go_sem]) rfl ⟨by rw [hr.out], belA⟩
def fAlike (d f : Flg) : Bool := (d.1 == f.1) && (leastF d == leastF f)
theorem falike_any (w : World) (d f : Flg) (hd : flV d = true) (hf : flV f = true) (hdo : okFlag d) (hfo : okFlag f) (hs : d.2.1 = f.2.1) :
    Calls Tryz.prog 228 #[.agg #[.int .i64 d.1, .int .i64 d.2.1, .int .u32 d.2.2], .agg #[.int .i64 f.1, .int .i64 f.2.1, .int .u32 f.2.2]] w fun e0 w' => e0 = .returned (.bool (fAlike d f)) ∧ Below w.heap.size w w' := by
  obtain ⟨k, n, h1, h2, h3, h4, h5⟩ := flN hd
  obtain ⟨d1, d2, d3⟩ := d
  obtain ⟨f1, f2, f3⟩ := f
  simp only at h1 h2 hs
  subst h1 h2 hs
  have hdl := (flV_iff _).1 hd
  have hfl := (flV_iff _).1 hf
  simp only at hdl hfl
  obtain ⟨u1, _⟩ := okFl hdo
  obtain ⟨u2, _⟩ := okFl hfo
  simp only at u1 u2
  cases hk : ((k : Int) == f1)
  · have hr : Hid (fAlike ((k : Int), ((n : Int), d3)) (f1, ((n : Int), f3)) = false) := Lib.hid (by simp [fAlike, hk])
    go_enter Tryz.func228, Tryz.ntmps228
    go_wp2_with fail
    exact bodyPost_ret (v := .bool false) (by simp [results, Tryz.results228, go_sem]) rfl ⟨by rw [hr.out], belA⟩
  · have hk' : (k : Int) = f1 := by simpa using hk
    subst hk'
    have hr : Hid (fAlike ((k : Int), ((n : Int), d3)) ((k : Int), ((n : Int), f3)) = alikeB n k d3 f3) := Lib.hid (by
      rw [alike_least h4 h3 u1 hdl.2.2.2 u2 hfl.2.2.2]
      simp [fAlike, leastF])
    have HA : Hid (∀ w, Calls Tryz.prog 271 #[.agg #[.int .i64 n, .int .u32 d3], .agg #[.int .i64 n, .int .u32 f3], .int .i64 k] w fun e0 w' => e0 = .returned (.bool (alikeB n k d3 f3)) ∧ Below w.heap.size w w') := Lib.hid fun w => galike_any w n k d3 f3 h4 h3 u1 hdl.2.2.2 u2 hfl.2.2.2
    clear hd hf hdo hfo hdl hfl
    go_enter Tryz.func228, Tryz.ntmps228
    go_wp2_with (first | (go_at_call 271; refine Calls.mono (HA.out _) ?_; rintro e w1 ⟨rfl, hb⟩; obtain ⟨X, m, rfl⟩ := plsOf hb; clear hb))
    exact bodyPost_ret (v := .bool (alikeB n k d3 f3)) (by simp [results, Tryz.results228, go_sem]) rfl ⟨by rw [hr.out], belA⟩
end Go.Proofs.YtekchdgpaemofaaGreat

/- spec.l03Part, l04Ratio, l04Count, l04Density. -/
import Derived.Test.YtpcjinbbgnmchaaGreatDt
import Derived.Test.YtpcjinbbgnmchaaGreatDc
import Derived.Test.YtpcjinbbgnmchaaGreatGk
namespace Go.Proofs.YtpcjinbbgnmchaaGreat
open Go.ChangeShapes Go.WideShapes Go.RowKit
set_option linter.unusedVariables false
set_option linter.unusedSimpArgs false
attribute [local irreducible] Calls
theorem sets_perm : ∀ k ≤ 3, ∀ n ≤ 5, ∀ q ≤ 5, (chs (othI k n) q 0 []).isPerm (s4L q k n) = true := by decide +kernel
theorem sets_len : ∀ k ≤ 3, ∀ n ≤ 5, k ≤ n → ∀ q ≤ n - k, ((s4L q k n).length : Int) = chI ((n - k : Nat) : Int) q := by decide +kernel
theorem count_same {k n q : Nat} (hk : k ≤ 3) (hn : n ≤ 5) (hq : q ≤ 5) (P : List Int → Bool) : (s4L q k n).countP P = (chs (othI k n) q 0 []).countP P :=
  (List.Perm.countP_eq P (List.isPerm_iff.1 (sets_perm k hk n hn q hq))).symm
theorem s4_ok {k n q : Nat} (hk : k ≤ 3) (hn : n ≤ 5) (hq : k + q ≤ 5) : ∀ L ∈ s4L q k n, VL (seqI k ++ L) ∧ L.length = q := fun L hL =>
  chs_ok hk hn hq L ((List.Perm.mem_iff (List.isPerm_iff.1 (sets_perm k hk n hn q (by omega)))).2 hL)
theorem wpList_append_ints (w : World) {B : Nat} {v u : Value} {L M : List Int} (hA : AppI B w v L) (hM : Lst (shI .i64) w M u) (hl : L.length + M.length ≤ 100) (hB : B ≤ w.heap.size) {ops : Array Oper} {rest : List Oper} {o : Oper} {a : Act} {Q : Exit → Act → World → Prop} (hgd : o.guard = none) (s x : Operand)
    (ho : o.op = .call { callee := .builtin .append, args := #[s, x], argTypes := #[146, 146] }) (hs : a.eval s = v) (hx : a.eval x = u)
    (h : ∀ v' w', AppI B w' v' (L ++ M) → Below B w w' → wpList Tryz.prog ops Q rest (a.put o.dst v') w') : wpList Tryz.prog ops Q (o :: rest) a w :=
  wpList_plain hgd fun _ hK => wp_append_ints w hA hM hl hB s x ho hs hx fun v' w' h1 h2 => hK _ _ (h v' w' h1 h2)
set_option maxHeartbeats 1000000 in
theorem l03Part_any (w : World) (k n m : Nat) (e : Int) (L : List Int) (v : Value) (hk : k ≤ 5) (h : Lst (shI .i64) w L v) (hV : VL (seqI k ++ L)) (hm : k + L.length = m) :
    Calls Tryz.prog 159 #[.agg #[.int .i64 k, .int .i64 n, .int .u32 e], v] w fun r w' => r = .returned (.agg #[.int .i64 k, .int .i64 m, .int .u32 (leastI m k (onE e (seqI k ++ L)))]) ∧ Below w.heap.size w w' := by
  have hlen : (seqI k ++ L).length = m := by rw [List.length_append, seqI_len]; exact hm
  have hl5 : m ≤ 5 := by rw [← hlen]; exact hV.1
  have hkm : k ≤ m := by omega
  have H := Lib.hid h
  have HV := Lib.hid hV
  have HL := Lib.hid hlen
  have hLl : L.length ≤ 5 := by omega
  have hok := Lib.hid (onE_ok e (seqI k ++ L))
  obtain ⟨A, cap, rfl, _, _⟩ := lstI h
  clear h hV hlen
  go_enter Tryz.func159, Tryz.ntmps159
  go_wp2_with fail
  refine Calls.mono (l01First_any _ k (by omega)) ?_
  rintro e1 w1 ⟨v1, rfl, hA, hb⟩
  have hb1 : Below w.heap.size w w1 := Below.trans belA (hb.mono (by simp <;> omega))
  have k0 : w1.heap[w.heap.size]? = some (.cells #[.int .i64 k, .int .i64 n, .int .u32 e] 81 (0, 0)) := bblk hb (by simp <;> omega) blkA
  have k1 : w1.heap[w.heap.size + 1]? = some (.cells #[.int .i64 0, .int .i64 0, .int .u32 0] 81 (0, 0)) := bblk hb (by simp) blkA
  have HA := Lib.hid (show AppI (w.heap.size + 1 + 1) w1 v1 (seqI k) from hA.mono (by simp))
  have hz1 : w.heap.size + 1 + 1 ≤ w1.heap.size := by have := hb.size; simp at this; omega
  have HB1 := Lib.hid hb1
  have K0 := Lib.hid k0
  have K1 := Lib.hid k1
  clear hA hb hb1 k0 k1
  go_wp2_with (at_builtin; refine wpList_append_ints _ HA.out (H.out.below HB1.out) (by rw [seqI_len]; omega) (by omega) rfl (.tmp 8) (.tmp 9) rfl rfl rfl ?_; intro v2 w2 hA2 hb2; have HA2 := Lib.hid hA2; have HB2 := Lib.hid hb2; clear hA2 hb2)
  have k02 : w2.heap[w.heap.size]? = some (.cells #[.int .i64 k, .int .i64 n, .int .u32 e] 81 (0, 0)) := (HB2.out.block _ (by omega)).trans K0.out
  have k12 : w2.heap[w.heap.size + 1]? = some (.cells #[.int .i64 0, .int .i64 0, .int .u32 0] 81 (0, 0)) := (HB2.out.block _ (by omega)).trans K1.out
  obtain ⟨q0, q1, q2⟩ := blkc3 k02
  have HBW := Lib.hid (HB1.out.trans (HB2.out.mono (by omega)))
  have y0 := blklt k02
  have y1 := blklt k12
  have K12 := Lib.hid k12
  clear k02 k12
  go_wp2_with fail
  (refine wp_region_held_drew (S := (fun w' => w'.cell? ⟨w.heap.size, 0, none⟩ = some (.int .i64 k) ∧ w'.cell? ⟨w.heap.size, 1, none⟩ = some (.int .i64 n) ∧ w'.cell? ⟨w.heap.size, 2, none⟩ = some (.int .u32 e))) (by kernel_rfl) ?_ (fun hHeld => ?_); (focus (first | (simp [*, go_sem]; done) | fail)); refine rt 0 (some 11) (v := ?_) rfl rfl ?_ ?_; rotate_left; (focus (intro w' hSw; (try dsimp only at hSw); go_simp; (try with_reducible rfl))); (try simp only [Act.put, nA, nB, nC]); refine rt 1 (some 12) (v := ?_) rfl rfl ?_ ?_; rotate_left; (focus (intro w' hSw; (try dsimp only at hSw); go_simp; (try with_reducible rfl))); (try simp only [Act.put, nA, nB, nC]); refine rt 2 (some 13) (v := ?_) rfl rfl ?_ ?_; rotate_left; (focus (intro w' hSw; (try dsimp only at hSw); go_simp; (try with_reducible rfl))); (try simp only [Act.put, nA, nB, nC]); refine rt 3 (some 14) (v := ?_) rfl rfl ?_ ?_; rotate_left; (focus (intro w' hSw; (try dsimp only at hSw); go_simp; (try with_reducible rfl))); (try simp only [Act.put, nA, nB, nC]); refine rt 4 (some 15) (v := ?_) rfl rfl ?_ ?_; rotate_left; (focus (intro w' hSw; (try dsimp only at hSw); go_simp; (try with_reducible rfl))); (try simp only [Act.put, nA, nB, nC]); refine wpAnyH_ready (rs := [5]) (by kernel_rfl) (by simp) ?_; refine AllReadyH.cons rfl (fun K hK => ?_) AllReadyH.nil; go_simp; (go_at_call 141; refine Calls.mono (l01On_any _ n e (seqI k ++ L) _ (HA2.out.lst.below belA) HV.out) ?_; rw [HL.out]; rintro e0 w3 ⟨rfl, hb⟩; have m0 := bkeep hb hHeld.1; have m1 := bkeep hb hHeld.2.1; have m2 := bkeep hb hHeld.2.2; have K13 := Lib.hid ((hb.block (w.heap.size + 1) (by simpa using y1)).trans K12.out); have HB3 := Lib.hid (show Below w2.heap.size w2 w3 from Below.trans belA (hb.mono (by simp))); clear hb); go_wp2_with fail; refine hK.out _ _ ?_ (fun hHeld => ?_); (focus (first | (simp [*, go_sem]; done) | fail)); clear hK K; (try simp only [Act.put, nA, nB, nC]); refine rt 6 (some 17) (v := ?_) rfl rfl ?_ ?_; rotate_left; (focus (intro w' hSw; (try dsimp only at hSw); go_simp; (try with_reducible rfl))); (try simp only [Act.put, nA, nB, nC]); refine wpAnyH_ready (rs := [7]) (by kernel_rfl) (by simp) ?_; refine AllReadyH.cons rfl (fun K hK => ?_) AllReadyH.nil; go_simp; (go_at_call 75; refine Calls.mono (l03Least_any' _ m k (onE e (seqI k ++ L)) hl5 hkm hok.out) ?_; rintro e0 w4 ⟨rfl, hb⟩; have n0 := bkeep hb m0; have n1 := bkeep hb m1; have n2 := bkeep hb m2; have k14 := (hb.block _ (blklt K13.out)).trans K13.out; obtain ⟨r0, r1, r2⟩ := blkc3 k14; have f0 : w4.frozen? ⟨w.heap.size + 1, 0, none⟩ = false := (by simp [World.frozen?, k14]); have f1 : w4.frozen? ⟨w.heap.size + 1, 1, none⟩ = false := (by simp [World.frozen?, k14]); have f2 : w4.frozen? ⟨w.heap.size + 1, 2, none⟩ = false := (by simp [World.frozen?, k14]); have yr := blklt k14; have HB4 := Lib.hid (HBW.out.trans ((HB3.out.trans (hb.mono HB3.out.size)).mono HBW.out.size)); clear hb k14); go_wp2_with fail; refine hK.out _ _ ?_ (fun hHeld => ?_); (focus (first | (simp [*, go_sem]; done) | fail)); clear hK K; (try simp only [Act.put, nA, nB, nC]); refine wpAnyH_ready (rs := [8]) (by kernel_rfl) (by simp) ?_; refine AllReadyH.cons rfl (fun K hK => ?_) AllReadyH.nil; (try go_simp); refine hK.out _ _ ?_ (fun hHeld => ?_); (focus (first | (simp [*, go_sem]; done) | fail)); clear hK K; (try simp only [Act.put, nA, nB, nC]); refine wpAnyH_done (by kernel_rfl) ?_ _)
  clear hHeld
  have hb4 := HB4.out
  go_wp2_with fail
  exact bodyPost_ret (v := .agg #[.int .i64 k, .int .i64 m, .int .u32 (leastI m k (onE e (seqI k ++ L)))]) (by simp [results, Tryz.results159, go_sem, *]) rfl ⟨rfl, belA⟩
theorem ratio_small : ∀ p < 101, ∀ q < 11, (q = 0) || smallB (lowP ((p : Nat) : Int) ((q : Nat) : Int)) (lowQ ((p : Nat) : Int) ((q : Nat) : Int)) = true := by decide +kernel
theorem l04Ratio_any (w : World) (p q : Int) (hp : 0 ≤ p ∧ p ≤ 100) (hq : 1 ≤ q ∧ q ≤ 10) : Calls Tryz.prog 161 #[.int .i64 p, .int .i64 q] w fun r w' => r = .returned (.agg #[.int .i64 (lowP p q), .int .i64 (lowQ p q)]) ∧ Below w.heap.size w w' := by
  have hs : smallB (lowP p q) (lowQ p q) = true := by
    have h := ratio_small p.toNat (by omega) q.toNat (by omega)
    rw [show ((p.toNat : Nat) : Int) = p by omega, show ((q.toNat : Nat) : Int) = q by omega] at h
    simpa [show q.toNat ≠ 0 by omega] using h
  have h1 : Hid (resP (lowP p q) (lowQ p q) = lowP p q) := Lib.hid (by unfold resP; rw [hs]; rfl)
  have h2 : Hid (resQ (lowP p q) (lowQ p q) = lowQ p q) := Lib.hid (by unfold resQ; rw [hs]; rfl)
  have h3 : Hid (resC (lowP p q) (lowQ p q) = 0) := Lib.hid (by unfold resC; rw [hs]; rfl)
  have HL : Hid (∀ w, Calls Tryz.prog 156 #[.int .i64 p, .int .i64 q] w fun e w' => e = .returned (.tuple #[.agg #[.int .i64 (lowP p q), .int .i64 (lowQ p q)], .int .i64 0]) ∧ Below w.heap.size w w') := Lib.hid fun w => by
    have := slowest_any p q w (by omega) (by omega) (by omega) (by omega) (by omega)
    rw [h1.out, h2.out, h3.out] at this
    exact this
  obtain ⟨Xp, hX⟩ : ∃ Xp, lowP p q = Xp := ⟨_, rfl⟩
  obtain ⟨Y, hY⟩ : ∃ Y, lowQ p q = Y := ⟨_, rfl⟩
  rw [hX, hY] at HL ⊢
  clear hs h1 h2 h3 hX hY
  go_enter Tryz.func161, Tryz.ntmps161
  go_wp2_with (first | (go_at_call 156; refine Calls.mono (HL.out _) ?_; rintro e w1 ⟨rfl, hb⟩; obtain ⟨X, m, rfl⟩ := plsOf hb; clear hb))
  exact bodyPost_ret (v := .agg #[.int .i64 Xp, .int .i64 Y]) (by simp [results, Tryz.results161, go_sem]) rfl ⟨rfl, belA⟩
theorem eq3_k (k m a b : Int) : eq3 k m a k m b = (a == b) := by rw [Bool.eq_iff_iff]; simp [eq3]
set_option maxHeartbeats 2000000 in
theorem l04Count_any (w : World) (k n : Nat) (e : Int) (f : Flg) (hk : k ≤ 3) (hkn : k ≤ n) (hn : n ≤ 5) (he : okI .u32 e) (hf : flV f = true) (hfo : okFlag f) (hfk : f.1 = k) (hfn : f.2.1 ≤ n) :
    Calls Tryz.prog 197 #[.agg #[.int .i64 f.1, .int .i64 f.2.1, .int .u32 f.2.2], .agg #[.int .i64 k, .int .i64 n, .int .u32 e]] w fun r w' => r = .returned (.int .i64 (ctF k n e f)) ∧ Below w.heap.size w w' := by
  have hfl := (flV_iff _).1 hf
  obtain ⟨m, hm2⟩ := Int.eq_ofNat_of_zero_le hfl.2.1.1
  have hkm : k ≤ m := by have := hfl.2.2.1; omega
  have hmn : m ≤ n := by omega
  have hmt : f.2.1.toNat = m := by rw [hm2]; rfl
  have hfree : Hid (f.2.1 - f.1 = ((m - k : Nat) : Int)) := Lib.hid (by omega)
  obtain ⟨LF, hLF⟩ : ∃ LF, Hid (leastI m k f.2.2 = LF) := ⟨_, Lib.hid rfl⟩
  have hct : Hid (((s4L (m - k) k n).countP (ptB k e f) : Nat) = ctF k n e f) := Lib.hid (by
    rw [count_same hk hn (by omega), ctF, hmt])
  have hpt : Hid (∀ L, ptB k e f L = (leastI m k (onE e (seqI k ++ L)) == LF)) := Lib.hid fun L => by
    unfold ptB leastF
    rw [hmt, show f.1.toNat = k by omega, hLF.out]
  have HLE : Hid (∀ w, Calls Tryz.prog 75 #[.agg #[.int .i64 f.1, .int .i64 f.2.1, .int .u32 f.2.2]] w fun e0 w' => e0 = .returned (.agg #[.int .i64 k, .int .i64 m, .int .u32 LF]) ∧ Below w.heap.size w w') := Lib.hid fun w => by
    have := l03Least_any' w m k f.2.2 (by omega) hkm hfo.2.2
    rw [hLF.out] at this
    rw [hfk, hm2]
    exact this
  obtain ⟨LS, hLS, N, hN⟩ : ∃ LS : List (List Int), Hid (s4L (m - k) k n = LS) ∧ ∃ N : Nat, Hid (LS.length = N) := ⟨_, Lib.hid rfl, _, Lib.hid rfl⟩
  have hok : Hid (∀ L ∈ LS, VL (seqI k ++ L) ∧ L.length = m - k) := Lib.hid fun L hL => s4_ok hk hn (by omega) L (by rw [hLS.out]; exact hL)
  have hN32 : N ≤ 10 := by
    have h1 := sets_len k hk n hn hkn (m - k) (by omega)
    have h2 := (dnC_bd hkm hmn hn).2
    unfold dnC at h2
    rw [← hN.out, ← hLS.out]
    omega
  have HS4 : Hid (∀ w, Calls Tryz.prog 157 #[.int .i64 ((m - k : Nat) : Int), .agg #[.int .i64 k, .int .i64 n, .int .u32 e]] w (LsRet w LS)) := Lib.hid fun w => by
    have := l04Sets_any w (m - k) k n e (by omega) hk hkn hn
    rw [hLS.out] at this
    exact this
  rw [hLS.out] at hct
  have hb1 : 0 ≤ f.1 ∧ f.1 ≤ 5 := by omega
  have hb2 : 0 ≤ f.2.1 ∧ f.2.1 ≤ 5 := by omega
  have hk5 : k ≤ 5 := by omega
  have hkm2 : k + (m - k) = m := by omega
  have HOKE := Lib.hid he
  clear hfl hm2 hmt hf hfo hfk hfn he
  go_enter Tryz.func197, Tryz.ntmps197
  go_wp2_with fail
  refine Calls.mono (HLE.out _) ?_
  rintro e0 w1 ⟨rfl, hb⟩
  have k0 : w1.heap[w.heap.size]? = some (.cells #[.int .i64 f.1, .int .i64 f.2.1, .int .u32 f.2.2] 81 (0, 0)) := bblk hb (by simp <;> omega) blkA
  have k1 : w1.heap[w.heap.size + 1]? = some (.cells #[.int .i64 k, .int .i64 n, .int .u32 e] 81 (0, 0)) := bblk hb (by simp) blkA
  have hbl1 : Below w.heap.size w w1 := Below.trans belA (hb.mono (by simp <;> omega))
  obtain ⟨q0, q1, q2⟩ := blkc3 k0
  obtain ⟨p0, p1, p2⟩ := blkc3 k1
  have y0 := blklt k0
  have y1 := blklt k1
  have K0 := Lib.hid k0
  have K1 := Lib.hid k1
  have HB1 := Lib.hid hbl1
  clear hb hbl1 k0 k1
  go_wp2_with fail
  (refine wp_region_held_drew (S := (fun w' => w'.cell? ⟨w.heap.size, 0, none⟩ = some (.int .i64 f.1) ∧ w'.cell? ⟨w.heap.size, 1, none⟩ = some (.int .i64 f.2.1) ∧ w'.cell? ⟨w.heap.size, 2, none⟩ = some (.int .u32 f.2.2) ∧ w'.cell? ⟨w.heap.size + 1, 0, none⟩ = some (.int .i64 k) ∧ w'.cell? ⟨w.heap.size + 1, 1, none⟩ = some (.int .i64 n) ∧ w'.cell? ⟨w.heap.size + 1, 2, none⟩ = some (.int .u32 e))) (by kernel_rfl) ?_ (fun hHeld => ?_); (focus (first | (simp [*, go_sem]; done) | fail)); refine rt 0 (some 11) (v := ?_) rfl rfl ?_ ?_; rotate_left; (focus (intro w' hSw; (try dsimp only at hSw); go_simp; (try with_reducible rfl))); (try simp only [Act.put, nA, nB, nC]); refine rt 2 (some 13) (v := ?_) rfl rfl ?_ ?_; rotate_left; (focus (intro w' hSw; (try dsimp only at hSw); go_simp; (try with_reducible rfl))); (try simp only [Act.put, nA, nB, nC]); refine wpAnyH_ready (rs := [1]) (by kernel_rfl) (by simp) ?_; refine AllReadyH.cons rfl (fun K hK => ?_) AllReadyH.nil; go_simp; (go_at_call 158; refine Calls.mono (l04Free_any _ f hb1 hb2) ?_; rw [hfree.out]; rintro e0 w2 ⟨rfl, hb⟩; have m0 := bkeep hb hHeld.1; have m1 := bkeep hb hHeld.2.1; have m2 := bkeep hb hHeld.2.2.1; have m3 := bkeep hb hHeld.2.2.2.1; have m4 := bkeep hb hHeld.2.2.2.2.1; have m5 := bkeep hb hHeld.2.2.2.2.2; have HB2 := Lib.hid (show Below w1.heap.size w1 w2 from Below.trans belA (hb.mono (by simp))); have K52 : Hid (w2.heap[w1.heap.size]? = some (.cells #[.int .i64 k, .int .i64 m, .int .u32 LF] 81 (0, 0))) := Lib.hid ((hb.block w1.heap.size (by simp)).trans (show (w1.alloc _).heap[w1.heap.size]? = _ from blknew _ _)); clear hb); go_wp2_with fail; refine hK.out _ _ ?_ (fun hHeld => ?_); (focus (first | (simp [*, go_sem]; done) | fail)); clear hK K; (try simp only [Act.put, nA, nB, nC]); refine wpAnyH_ready (rs := [3]) (by kernel_rfl) (by simp) ?_; refine AllReadyH.cons rfl (fun K hK => ?_) AllReadyH.nil; go_simp; (go_at_call 157; refine Calls.mono (HS4.out _) ?_; rintro e0 w3 ⟨A3, cap3, F3, rfl, hO3, hb⟩; rw [hN.out] at hO3 ⊢; have n0 := bkeep hb m0; have n1 := bkeep hb m1; have n2 := bkeep hb m2; have n3 := bkeep hb m3; have n4 := bkeep hb m4; have n5 := bkeep hb m5; have HB3 := Lib.hid (HB2.out.trans (hb.mono HB2.out.size)); have K53 := Lib.hid (bblk hb (blklt K52.out) K52.out); have HO3 := Lib.hid hO3; clear hb hO3); go_wp2_with fail; refine hK.out _ _ ?_ (fun hHeld => ?_); (focus (first | (simp [*, go_sem]; done) | fail)); clear hK K; (try simp only [Act.put, nA, nB, nC]); refine rt 4 (some 6) (v := ?_) rfl rfl ?_ ?_; rotate_left; (focus (intro w' hSw; (try dsimp only at hSw); go_simp; (try with_reducible rfl))); (try simp only [Act.put, nA, nB, nC]); refine wpAnyH_done (by kernel_rfl) ?_ _)
  clear hHeld
  have HBW := Lib.hid (HB1.out.trans (HB3.out.mono HB1.out.size))
  have hcap : N ≤ cap3 ∧ cap3 ≤ maxLen := by
    obtain ⟨_, _, he, h1, h2, _⟩ := rep_slice HO3.out.lst
    injection he with _ e2 e3
    rw [← e2, ← e3] at h1
    exact ⟨h1, by rw [e3]; exact h2⟩
  obtain ⟨hcap, hmx⟩ := hcap
  unfold maxLen at hmx
  have K13 := Lib.hid (bblk HB3.out y1 K1.out)
  go_wp2_with fail
  go_loopw [7, 8] (fun c i wr => ∃ (a : Nat), a ≤ N ∧ i = .int .i64 a ∧ c = .int .i64 ((LS.take a).countP (ptB k e f) : Nat) ∧ wr.heap[w.heap.size + 1]? = some (.cells #[.int .i64 k, .int .i64 n, .int .u32 e] 81 (0, 0)) ∧ wr.heap[w1.heap.size]? = some (.cells #[.int .i64 k, .int .i64 m, .int .u32 LF] 81 (0, 0)) ∧ Hid (Own (shL (shI .i64)) 0 wr LS (.slice A3 N cap3) F3) ∧ Below w.heap.size w wr) (fun _ i _ => N - (intOf i).toNat)
  case atStart => exact ⟨0, Nat.zero_le _, rfl, rfl, K13.out, K53.out, Lib.hid (HO3.out.below (Nat.zero_le _) (Below.refl _ _)), HBW.out⟩
  case round =>
    obtain ⟨a, ha, rfl, rfl, b1, b5, hO, hB⟩ := hrel
    obtain ⟨r0, r1, r2⟩ := blkc3 b1
    obtain ⟨s0, s1, s2⟩ := blkc3 b5
    have z1 := blklt b1
    have z5 := blklt b5
    have B1 := Lib.hid b1
    have B5 := Lib.hid b5
    clear b1 b5
    by_cases hlt : a < N
    · have hk8 : (a : Int) < (N : Int) := by omega
      obtain ⟨L, hL⟩ : ∃ L, LS[a]? = some L := ⟨_, List.getElem?_eq_getElem (by rw [hN.out]; exact hlt)⟩
      obtain ⟨hV, hLl⟩ := hok.out L (List.mem_of_getElem? hL)
      obtain ⟨g2, cap4, Fi, vi, hv, c0, _, hOi, _, _, _, _⟩ := own_rowI hO.out hL
      obtain ⟨rfl, hNl, rfl⟩ : A3 = some ⟨g2, 0, none⟩ ∧ N = LS.length ∧ cap3 = cap4 := by simpa using hv
      have zg := World.block_lt_of_cell? _ _ c0
      simp only at zg
      obtain ⟨A4, cap5, rfl, _, _, _⟩ := lstI hOi.lst
      have HLi := Lib.hid hOi.lst
      have HV := Lib.hid hV
      have hLm : k + L.length = m := by omega
      obtain ⟨C, hC, hC32⟩ : ∃ C : Nat, Hid ((LS.take a).countP (ptB k e f) = C) ∧ C ≤ 10 := ⟨_, Lib.hid rfl, Nat.le_trans List.countP_le_length (by rw [List.length_take]; omega)⟩
      have hnx : Hid ((LS.take (a + 1)).countP (ptB k e f) = C + (if ptB k e f L then 1 else 0)) := Lib.hid (by rw [List.take_add_one, hL, List.countP_append, hC.out]; simp [List.countP_cons])
      rw [hC.out]
      obtain ⟨LV, hLV⟩ : ∃ LV, Hid (leastI m k (onE e (seqI k ++ L)) = LV) := ⟨_, Lib.hid rfl⟩
      have hpq : Hid (ptB k e f L = eq3 k m LV k m LF) := Lib.hid (by rw [hpt.out, hLV.out, eq3_k])
      have HLm := Lib.hid hLl
      clear hV hLl hL hNl hv hOi
      obtain ⟨W0, rfl⟩ : ∃ x, x = wr := ⟨_, rfl⟩
      cases hp : eq3 k m LV k m LF
      · have hpf : Hid (ptB k e f L = false) := Lib.hid (by rw [hpq.out, hp])
        go_wp2_with fail
        (refine wp_region_held_drew (S := (fun w' => w'.cell? ⟨w.heap.size + 1, 0, none⟩ = some (.int .i64 k) ∧ w'.cell? ⟨w.heap.size + 1, 1, none⟩ = some (.int .i64 n) ∧ w'.cell? ⟨w.heap.size + 1, 2, none⟩ = some (.int .u32 e) ∧ w'.cell? ⟨w1.heap.size, 0, none⟩ = some (.int .i64 k) ∧ w'.cell? ⟨w1.heap.size, 1, none⟩ = some (.int .i64 m) ∧ w'.cell? ⟨w1.heap.size, 2, none⟩ = some (.int .u32 LF) ∧ w'.cell? ⟨g2, a, none⟩ = some (.slice A4 L.length cap5))) (by kernel_rfl) ?_ (fun hHeld => ?_); (focus (first | (simp [*, go_sem]; done) | fail)); refine rt 0 (some 21) (v := ?_) rfl rfl ?_ ?_; rotate_left; (focus (intro w' hSw; (try dsimp only at hSw); go_simp; (try with_reducible rfl))); (try simp only [Act.put, nA, nB, nC]); refine rt 1 (some 22) (v := ?_) rfl rfl ?_ ?_; rotate_left; (focus (intro w' hSw; (try dsimp only at hSw); go_simp; (try with_reducible rfl))); (try simp only [Act.put, nA, nB, nC]); refine rt 2 (some 23) (v := ?_) rfl rfl ?_ ?_; rotate_left; (focus (intro w' hSw; (try dsimp only at hSw); go_simp; (try with_reducible rfl))); (try simp only [Act.put, nA, nB, nC]); refine rt 3 (some 24) (v := ?_) rfl rfl ?_ ?_; rotate_left; (focus (intro w' hSw; (try dsimp only at hSw); go_simp; (try with_reducible rfl))); (try simp only [Act.put, nA, nB, nC]); refine rt 4 (some 25) (v := ?_) rfl rfl ?_ ?_; rotate_left; (focus (intro w' hSw; (try dsimp only at hSw); go_simp; (try with_reducible rfl))); (try simp only [Act.put, nA, nB, nC]); refine rt 6 (some 27) (v := ?_) rfl rfl ?_ ?_; rotate_left; (focus (intro w' hSw; (try dsimp only at hSw); go_simp; (try with_reducible rfl))); (try simp only [Act.put, nA, nB, nC]); refine wpAnyH_ready (rs := [5]) (by kernel_rfl) (by simp) ?_; refine AllReadyH.cons rfl (fun K hK => ?_) AllReadyH.nil; go_simp; (go_at_call 159; refine Calls.mono (l03Part_any _ k n m e L _ hk5 (HLi.out.below belA) HV.out hLm) ?_; rw [hLV.out]; rintro e0 w4 ⟨rfl, hb⟩; have m0 := bkeep hb hHeld.1; have m1 := bkeep hb hHeld.2.1; have m2 := bkeep hb hHeld.2.2.1; have m3 := bkeep hb hHeld.2.2.2.1; have m4 := bkeep hb hHeld.2.2.2.2.1; have m5 := bkeep hb hHeld.2.2.2.2.2.1; have m6 := bkeep hb hHeld.2.2.2.2.2.2; have HB4 := Lib.hid (show Below W0.heap.size W0 w4 from Below.trans belA (hb.mono (by simp))); clear hb); go_wp2_with fail; refine hK.out _ _ ?_ (fun hHeld => ?_); (focus (first | (simp [*, go_sem]; done) | fail)); clear hK K; (try simp only [Act.put, nA, nB, nC]); refine rt 7 (some 28) (v := ?_) rfl rfl ?_ ?_; rotate_left; (focus (intro w' hSw; (try dsimp only at hSw); go_simp; (try with_reducible rfl))); (try simp only [Act.put, nA, nB, nC]); refine wpAnyH_done (by kernel_rfl) ?_ _)
        clear hHeld
        go_wp2_with fail
        go_roundw
        case rel => exact ⟨a + 1, by omega, by go_num, by rw [hnx.out, hpf.out]; simp, bblk HB4.out z1 B1.out, bblk HB4.out z5 B5.out, Lib.hid (hO.out.below (Nat.le_refl _) HB4.out), hB.trans (HB4.out.mono hB.size)⟩
        case measure => simp [intOf]; omega
      · have hpf : Hid (ptB k e f L = true) := Lib.hid (by rw [hpq.out, hp])
        go_wp2_with fail
        (refine wp_region_held_drew (S := (fun w' => w'.cell? ⟨w.heap.size + 1, 0, none⟩ = some (.int .i64 k) ∧ w'.cell? ⟨w.heap.size + 1, 1, none⟩ = some (.int .i64 n) ∧ w'.cell? ⟨w.heap.size + 1, 2, none⟩ = some (.int .u32 e) ∧ w'.cell? ⟨w1.heap.size, 0, none⟩ = some (.int .i64 k) ∧ w'.cell? ⟨w1.heap.size, 1, none⟩ = some (.int .i64 m) ∧ w'.cell? ⟨w1.heap.size, 2, none⟩ = some (.int .u32 LF) ∧ w'.cell? ⟨g2, a, none⟩ = some (.slice A4 L.length cap5))) (by kernel_rfl) ?_ (fun hHeld => ?_); (focus (first | (simp [*, go_sem]; done) | fail)); refine rt 0 (some 21) (v := ?_) rfl rfl ?_ ?_; rotate_left; (focus (intro w' hSw; (try dsimp only at hSw); go_simp; (try with_reducible rfl))); (try simp only [Act.put, nA, nB, nC]); refine rt 1 (some 22) (v := ?_) rfl rfl ?_ ?_; rotate_left; (focus (intro w' hSw; (try dsimp only at hSw); go_simp; (try with_reducible rfl))); (try simp only [Act.put, nA, nB, nC]); refine rt 2 (some 23) (v := ?_) rfl rfl ?_ ?_; rotate_left; (focus (intro w' hSw; (try dsimp only at hSw); go_simp; (try with_reducible rfl))); (try simp only [Act.put, nA, nB, nC]); refine rt 3 (some 24) (v := ?_) rfl rfl ?_ ?_; rotate_left; (focus (intro w' hSw; (try dsimp only at hSw); go_simp; (try with_reducible rfl))); (try simp only [Act.put, nA, nB, nC]); refine rt 4 (some 25) (v := ?_) rfl rfl ?_ ?_; rotate_left; (focus (intro w' hSw; (try dsimp only at hSw); go_simp; (try with_reducible rfl))); (try simp only [Act.put, nA, nB, nC]); refine rt 6 (some 27) (v := ?_) rfl rfl ?_ ?_; rotate_left; (focus (intro w' hSw; (try dsimp only at hSw); go_simp; (try with_reducible rfl))); (try simp only [Act.put, nA, nB, nC]); refine wpAnyH_ready (rs := [5]) (by kernel_rfl) (by simp) ?_; refine AllReadyH.cons rfl (fun K hK => ?_) AllReadyH.nil; go_simp; (go_at_call 159; refine Calls.mono (l03Part_any _ k n m e L _ hk5 (HLi.out.below belA) HV.out hLm) ?_; rw [hLV.out]; rintro e0 w4 ⟨rfl, hb⟩; have m0 := bkeep hb hHeld.1; have m1 := bkeep hb hHeld.2.1; have m2 := bkeep hb hHeld.2.2.1; have m3 := bkeep hb hHeld.2.2.2.1; have m4 := bkeep hb hHeld.2.2.2.2.1; have m5 := bkeep hb hHeld.2.2.2.2.2.1; have m6 := bkeep hb hHeld.2.2.2.2.2.2; have HB4 := Lib.hid (show Below W0.heap.size W0 w4 from Below.trans belA (hb.mono (by simp))); clear hb); go_wp2_with fail; refine hK.out _ _ ?_ (fun hHeld => ?_); (focus (first | (simp [*, go_sem]; done) | fail)); clear hK K; (try simp only [Act.put, nA, nB, nC]); refine rt 7 (some 28) (v := ?_) rfl rfl ?_ ?_; rotate_left; (focus (intro w' hSw; (try dsimp only at hSw); go_simp; (try with_reducible rfl))); (try simp only [Act.put, nA, nB, nC]); refine wpAnyH_done (by kernel_rfl) ?_ _)
        clear hHeld
        go_wp2_with fail
        go_roundw
        case rel => exact ⟨a + 1, by omega, by go_num, by rw [hnx.out, hpf.out]; go_num, bblk HB4.out z1 B1.out, bblk HB4.out z5 B5.out, Lib.hid (hO.out.below (Nat.le_refl _) HB4.out), hB.trans (HB4.out.mono hB.size)⟩
        case measure => simp [intOf]; omega
    · have ee : a = N := by omega
      subst ee
      have hfin : Hid (((LS.take a).countP (ptB k e f) : Nat) = ctF k n e f) := Lib.hid (by rw [show LS.take a = LS from by rw [← hN.out]; exact List.take_length]; exact hct.out)
      rw [hfin.out]
      go_wp2_with fail
      exact bodyPost_ret (v := .int .i64 (ctF k n e f)) (by simp [results, Tryz.results197, go_sem]) rfl ⟨rfl, hB⟩
end Go.Proofs.YtpcjinbbgnmchaaGreat

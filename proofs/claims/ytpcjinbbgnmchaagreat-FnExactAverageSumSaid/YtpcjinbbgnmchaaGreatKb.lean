/- How often labels make a flag of its graph: spec.l04Factor. -/
import Derived.Test.YtpcjinbbgnmchaaGreatKa
import Derived.Test.YtpcjinbbgnmchaaGreatAz
import Derived.Test.YtpcjinbbgnmchaaGreatAx
import Derived.Test.YtpcjinbbgnmchaaGreatVt
import Derived.Test.YtpcjinbbgnmchaaGreatDu
namespace Go.Proofs.YtpcjinbbgnmchaaGreat
open Go.ChangeShapes Go.WideShapes Go.RowKit
set_option linter.unusedVariables false
set_option linter.unusedSimpArgs false
attribute [local irreducible] Calls
theorem ratio60_any (w : World) (p q : Int) (hp : 0 ≤ p ∧ p ≤ 60) (hq : 1 ≤ q ∧ q ≤ 60) : Calls Tryz.prog 161 #[.int .i64 p, .int .i64 q] w fun r w' => r = .returned (.agg #[.int .i64 (lowP p q), .int .i64 (lowQ p q)]) ∧ Below w.heap.size w w' := by
  have hs : smallB (lowP p q) (lowQ p q) = true := (ratio_bd hp hq).1
  have h1 : Hid (resP (lowP p q) (lowQ p q) = lowP p q) := Lib.hid (by unfold resP; rw [hs]; rfl)
  have h2 : Hid (resQ (lowP p q) (lowQ p q) = lowQ p q) := Lib.hid (by unfold resQ; rw [hs]; rfl)
  have h3 : Hid (resC (lowP p q) (lowQ p q) = 0) := Lib.hid (by unfold resC; rw [hs]; rfl)
  have HL : Hid (∀ w, Calls Tryz.prog 156 #[.int .i64 p, .int .i64 q] w fun e w' => e = .returned (.tuple #[.agg #[.int .i64 (lowP p q), .int .i64 (lowQ p q)], .int .i64 0]) ∧ Below w.heap.size w w') := Lib.hid fun w => by
    have := slowest_any p q w (by omega) (by omega) (by omega) (by omega) (by omega)
    rw [h1.out, h2.out, h3.out] at this
    exact this
  obtain ⟨Xp, hX⟩ : ∃ Xp, lowP p q = Xp := ⟨_, rfl⟩
  obtain ⟨Y, hY⟩ : ∃ Y, lowQ p q = Y := ⟨_, rfl⟩
  rw [hX, hY] at HL ⊢
  clear hs h1 h2 h3 hX hY
  go_enter Tryz.func161, Tryz.ntmps161
  go_wp2_with (first | (go_at_call 156; refine Calls.mono (HL.out _) ?_; rintro e w1 ⟨rfl, hb⟩; obtain ⟨X, m, rfl⟩ := plsOf hb; clear hb))
  exact bodyPost_ret (v := .agg #[.int .i64 Xp, .int .i64 Y]) (by simp [results, Tryz.results161, go_sem]) rfl ⟨rfl, belA⟩
def lbC (k n : Nat) (e : Int) (a : Nat) : Int := ((lsts n k []).take a |>.filter (lbP k n e)).length
theorem lbC_succ {k n : Nat} {e : Int} {a : Nat} {L : List Int} (h : (lsts n k [])[a]? = some L) : lbC k n e (a + 1) = if lbP k n e L then lbC k n e a + 1 else lbC k n e a := by
  unfold lbC
  rw [List.take_add_one, h, List.filter_append]
  cases hP : lbP k n e L <;> simp [hP]
theorem lbC_bd (k n : Nat) (e : Int) (a : Nat) : 0 ≤ lbC k n e a ∧ lbC k n e a ≤ a := by
  unfold lbC
  have h1 := List.length_filter_le (lbP k n e) ((lsts n k []).take a)
  have h2 := List.length_take_le a (lsts n k [])
  omega
set_option maxHeartbeats 4000000 in
theorem l04Factor_any (w : World) (k n : Nat) (e : Int) (hn : n ≤ 5) (hk : k ≤ 3) (hkn : k ≤ n) (he : 0 ≤ e ∧ e < limN n) :
    Calls Tryz.prog 128 #[.agg #[.int .i64 k, .int .i64 n, .int .u32 e]] w fun r w' => r = .returned (.agg #[.int .i64 (fcF k n e).1, .int .i64 (fcF k n e).2]) ∧ Below w.heap.size w w' := by
  have hlim : limN n ≤ 1024 := by
    have : n = 0 ∨ n = 1 ∨ n = 2 ∨ n = 3 ∨ n = 4 ∨ n = 5 := by omega
    rcases this with rfl | rfl | rfl | rfl | rfl | rfl <;> decide
  have hok3 : ∀ x : Int, 0 ≤ x → x < limN n → okFlag ((k : Int), ((n : Int), x)) ∧ flV ((k : Int), ((n : Int), x)) = true := fun x h1 h2 => by
    refine ⟨⟨?_, ?_, ?_⟩, (flV_iff _).2 ⟨⟨by show (0 : Int) ≤ (k : Int); omega, by show (k : Int) ≤ 3; omega⟩, ⟨by show (0 : Int) ≤ (n : Int); omega, by show (n : Int) ≤ 5; omega⟩, by show (k : Int) ≤ (n : Int); omega, h2⟩⟩
    · simp [okI, Lit.wf, IntKind.min, IntKind.max, IntKind.signed, IntKind.bits]; omega
    · simp [okI, Lit.wf, IntKind.min, IntKind.max, IntKind.signed, IntKind.bits]; omega
    · simp [okI, Lit.wf, IntKind.min, IntKind.max, IntKind.signed, IntKind.bits]; omega
  have HLE : Hid (∀ x : Int, 0 ≤ x → x < limN n → ∀ W, Calls Tryz.prog 75 #[.agg #[.int .i64 k, .int .i64 n, .int .u32 x]] W fun e0 w' => e0 = .returned (.agg #[.int .i64 k, .int .i64 n, .int .u32 (leastI n k x)]) ∧ Below W.heap.size W w') := Lib.hid fun x h1 h2 W => sleast_i W ((k : Int), ((n : Int), x)) (hok3 x h1 h2).1 (hok3 x h1 h2).2
  have HLE0 := Lib.hid (HLE.out e he.1 he.2)
  obtain ⟨LF, hLF⟩ : ∃ LF, Hid (leastI n k e = LF) := ⟨_, Lib.hid rfl⟩
  rw [hLF.out] at HLE0
  obtain ⟨LS, hLS⟩ : ∃ LS, Hid (lsts n k [] = LS) := ⟨_, Lib.hid rfl⟩
  obtain ⟨N, hN⟩ : ∃ N : Nat, Hid (LS.length = N) := ⟨_, Lib.hid rfl⟩
  have hN60 : N ≤ 60 := by rw [← hN.out, ← hLS.out]; exact lists_le hn hk
  have HOK : Hid (∀ L ∈ LS, VL (L ++ rstI L n) ∧ (L ++ rstI L n).length = n ∧ L.length = k) := Lib.hid fun L hL => lists_vl hn hk (by rw [lists_eq hn hk, hLS.out]; exact hL)
  have HLL : Hid (∀ W, Calls Tryz.prog 186 #[.int .i64 k, .int .i64 n] W (LsRet W LS)) := Lib.hid fun W => by
    have := l04Lists_any W n k hn hk
    rw [lists_eq hn hk, hLS.out] at this
    exact this
  have hlc : Hid ((N : Int) = lisI n k) := Lib.hid (by rw [← hN.out, ← hLS.out, ← lists_eq hn hk]; exact lists_cnt hn hk)
  have hb2 : Hid (1 ≤ lisI n k ∧ lisI n k ≤ 60) := Lib.hid (lisI_bdk hn hk hkn)
  have hNp : 1 ≤ N := by have := hb2.out.1; have := hlc.out; omega
  have HRT : Hid (∀ W, Calls Tryz.prog 161 #[.int .i64 (lbC k n e N), .int .i64 N] W fun r w' => r = .returned (.agg #[.int .i64 (fcF k n e).1, .int .i64 (fcF k n e).2]) ∧ Below W.heap.size W w') := Lib.hid fun W => by
    have e1 : lbC k n e N = lbN k n e := by
      unfold lbC lbN
      rw [hLS.out, ← hN.out, List.take_length]
    rw [e1, hlc.out]
    exact ratio60_any W _ _ (lbN_bd hn hk e) hb2.out
  have hfc : Hid (∃ X Y, fcF k n e = (X, Y)) := Lib.hid ⟨_, _, rfl⟩
  obtain ⟨X, Y, hXY⟩ := hfc.out
  rw [hXY] at HRT ⊢
  clear hXY hfc hok3 hlim hlc hb2 he
  go_enter Tryz.func128, Tryz.ntmps128
  go_wp2_with fail
  refine Calls.mono (HLE0.out _) ?_
  rintro e0 w1 ⟨rfl, hb⟩
  have k0 : w1.heap[w.heap.size]? = some (.cells #[.int .i64 k, .int .i64 n, .int .u32 e] 81 (0, 0)) := bblk hb (by simp <;> omega) blkA
  have k1 : w1.heap[w.heap.size + 1]? = some (.cells #[.int .i64 0, .int .i64 0] 53 (0, 0)) := bblk hb (by simp <;> omega) blkA
  have HB1 := Lib.hid (show Below w.heap.size w w1 from Below.trans belA (hb.mono (by simp <;> omega)))
  obtain ⟨f0, f1, f2⟩ := blkc3 k0
  have y0 := blklt k0
  have y1 := blklt k1
  have K0 := Lib.hid k0
  have K1 := Lib.hid k1
  clear hb k0 k1
  go_wp2_with fail
  refine Calls.mono (HLL.out _) ?_
  rintro e0 w2 ⟨A1, cap1, F1, rfl, hO1, hb⟩
  have K02 := Lib.hid (bblk hb (by simp; omega) (blkal K0.out _))
  have K12 := Lib.hid (bblk hb (by simp; omega) (blkal K1.out _))
  have KL2 : Hid (w2.heap[w1.heap.size]? = some (.cells #[.int .i64 k, .int .i64 n, .int .u32 LF] 81 (0, 0))) := Lib.hid (bblk hb (by simp) blkA)
  have HB2 := Lib.hid (show Below w.heap.size w w2 from (bal HB1.out _ |> fun h => h).trans (hb.mono (by have := HB1.out.size; simp; omega)))
  rw [hN.out] at hO1 ⊢
  have HO1 := Lib.hid (show Own (shL (shI .i64)) 0 w2 LS (.slice A1 N cap1) F1 from hO1.below (Nat.zero_le _) (Below.refl _ _))
  have hz1 := HB1.out.size
  clear hb hO1 f0 f1 f2 y0 y1 K0 K1
  go_wp2_with fail
  go_loopw [5, 6] (fun c i wr => ∃ (a : Nat), a ≤ N ∧ i = .int .i64 a ∧ c = .int .i64 (lbC k n e a) ∧ Below w2.heap.size w2 wr) (fun c i _ => N - (intOf i).toNat)
  case atStart => exact ⟨0, Nat.zero_le _, rfl, by unfold lbC; rfl, Below.refl _ _⟩
  case round =>
    obtain ⟨a, ha, rfl, rfl, hB⟩ := hrel
    obtain ⟨W0, rfl⟩ : ∃ x, x = wr := ⟨_, rfl⟩
    have b0 := bblk hB (blklt K02.out) K02.out
    have b1 := bblk hB (blklt K12.out) K12.out
    have bL := bblk hB (blklt KL2.out) KL2.out
    have hO := Lib.hid (HO1.out.below (Nat.zero_le _) hB)
    obtain ⟨f0, f1, f2⟩ := blkc3 b0
    obtain ⟨l0, l1, l2⟩ := blkc3 bL
    have y0 := blklt b0
    have yL := blklt bL
    have hbc := lbC_bd k n e a
    by_cases hlt : a < N
    · have hk8 : (a : Int) < (N : Int) := by omega
      obtain ⟨L, hL⟩ : ∃ L, LS[a]? = some L := ⟨_, List.getElem?_eq_getElem (by rw [hN.out]; exact hlt)⟩
      obtain ⟨hV, hVl, hLl⟩ := HOK.out L (List.mem_of_getElem? hL)
      have hnx := Lib.hid (lbC_succ (k := k) (n := n) (e := e) (a := a) (L := L) (by rw [hLS.out]; exact hL))
      obtain ⟨g2, cap4, Fi, vi, hv, c0, _, hOi, _, _, _, _⟩ := own_rowI hO.out hL
      obtain ⟨rfl, hNl, rfl⟩ : A1 = some ⟨g2, 0, none⟩ ∧ N = LS.length ∧ cap1 = cap4 := by simpa using hv
      have zg := World.block_lt_of_cell? _ _ c0
      simp only at zg
      obtain ⟨A4, cap5, rfl, _, _, _⟩ := lstI hOi.lst
      obtain ⟨E, hE⟩ : ∃ E, Hid (onE e (L ++ rstI L n) = E) := ⟨_, Lib.hid rfl⟩
      have hE2 := onE_lt e (L := L ++ rstI L n) (by omega)
      rw [hE.out, hVl] at hE2
      have HFL : Hid (∀ w', Below W0.heap.size W0 w' → Calls Tryz.prog 187 #[.agg #[.int .i64 n, .int .u32 e], .slice A4 L.length cap5] w' fun r w'' => r = .returned (.agg #[.int .i64 k, .int .i64 n, .int .u32 E]) ∧ Below w'.heap.size w' w'') := Lib.hid fun w' hb => by
        have := sflagOf_any w' n e L _ (hOi.lst.below hb) hn (by omega) hV
        rw [hVl, hE.out] at this
        rw [hLl] at this ⊢
        exact this
      have HLX := Lib.hid (HLE.out E hE2.1 hE2.2)
      obtain ⟨LX, hLX⟩ : ∃ LX, Hid (leastI n k E = LX) := ⟨_, Lib.hid rfl⟩
      rw [hLX.out] at HLX
      have hPL : Hid (lbP k n e L = (LX == LF)) := Lib.hid (by unfold lbP; rw [hE.out, hLX.out, hLF.out])
      rw [hLl] at HFL c0
      have eq3L : Hid (eq3 (k : Int) n LX k n LF = (LX == LF)) := Lib.hid (by rw [Bool.eq_iff_iff]; simp [eq3])
      clear hV hVl hLl hL hNl hv hOi hE2 b0 b1 bL
      have HKP : Hid (∀ V V' : World, Below V.heap.size V V' → (fun w' => w'.cell? ⟨w.heap.size, 1, none⟩ = some (.int .i64 n) ∧ w'.cell? ⟨w.heap.size, 2, none⟩ = some (.int .u32 e) ∧ w'.cell? ⟨w1.heap.size, 0, none⟩ = some (.int .i64 k) ∧ w'.cell? ⟨w1.heap.size, 1, none⟩ = some (.int .i64 n) ∧ w'.cell? ⟨w1.heap.size, 2, none⟩ = some (.int .u32 LF) ∧ w'.cell? ⟨g2, a, none⟩ = some (.slice A4 k cap5)) V → (fun w' => w'.cell? ⟨w.heap.size, 1, none⟩ = some (.int .i64 n) ∧ w'.cell? ⟨w.heap.size, 2, none⟩ = some (.int .u32 e) ∧ w'.cell? ⟨w1.heap.size, 0, none⟩ = some (.int .i64 k) ∧ w'.cell? ⟨w1.heap.size, 1, none⟩ = some (.int .i64 n) ∧ w'.cell? ⟨w1.heap.size, 2, none⟩ = some (.int .u32 LF) ∧ w'.cell? ⟨g2, a, none⟩ = some (.slice A4 k cap5)) V') := Lib.hid fun V V' hb h => ⟨bkeep hb h.1, bkeep hb h.2.1, bkeep hb h.2.2.1, bkeep hb h.2.2.2.1, bkeep hb h.2.2.2.2.1, bkeep hb h.2.2.2.2.2⟩
      go_wp2_with fail
      (refine wp_region_held_drew (S := (fun w' => w'.cell? ⟨w.heap.size, 1, none⟩ = some (.int .i64 n) ∧ w'.cell? ⟨w.heap.size, 2, none⟩ = some (.int .u32 e) ∧ w'.cell? ⟨w1.heap.size, 0, none⟩ = some (.int .i64 k) ∧ w'.cell? ⟨w1.heap.size, 1, none⟩ = some (.int .i64 n) ∧ w'.cell? ⟨w1.heap.size, 2, none⟩ = some (.int .u32 LF) ∧ w'.cell? ⟨g2, a, none⟩ = some (.slice A4 k cap5))) (by kernel_rfl) ?_ (fun hHeld => ?_); (focus (first | exact hS | (simp [*, go_sem]; done) | fail)); refine rt 0 (some 21) (v := ?_) rfl rfl ?_ ?_; rotate_left; (focus (intro w' hSw; (try dsimp only at hSw); go_simp; (try with_reducible rfl))); (try simp only [Act.put, nA, nB, nC]); refine rt 1 (some 22) (v := ?_) rfl rfl ?_ ?_; rotate_left; (focus (intro w' hSw; (try dsimp only at hSw); go_simp; (try with_reducible rfl))); (try simp only [Act.put, nA, nB, nC]); refine rt 2 (some 23) (v := ?_) rfl rfl ?_ ?_; rotate_left; (focus (intro w' hSw; (try dsimp only at hSw); go_simp; (try with_reducible rfl))); (try simp only [Act.put, nA, nB, nC]); refine rt 3 (some 24) (v := ?_) rfl rfl ?_ ?_; rotate_left; (focus (intro w' hSw; (try dsimp only at hSw); go_simp; (try with_reducible rfl))); (try simp only [Act.put, nA, nB, nC]); refine rt 4 (some 25) (v := ?_) rfl rfl ?_ ?_; rotate_left; (focus (intro w' hSw; (try dsimp only at hSw); go_simp; (try with_reducible rfl))); (try simp only [Act.put, nA, nB, nC]); refine rt 5 (some 26) (v := ?_) rfl rfl ?_ ?_; rotate_left; (focus (intro w' hSw; (try dsimp only at hSw); go_simp; (try with_reducible rfl))); (try simp only [Act.put, nA, nB, nC]); refine rt 8 (some 29) (v := ?_) rfl rfl ?_ ?_; rotate_left; (focus (intro w' hSw; (try dsimp only at hSw); go_simp; (try with_reducible rfl))); (try simp only [Act.put, nA, nB, nC]); refine wpAnyH_ready (rs := [6]) (by kernel_rfl) (by simp) ?_; refine AllReadyH.cons rfl (fun K hK => ?_) AllReadyH.nil; go_simp; (go_at_call 187; refine Calls.mono (HFL.out _ belA) ?_; rintro e0 w3 ⟨rfl, hb⟩; have hS := HKP.out _ _ hb hHeld; have HB3 := Lib.hid (show Below W0.heap.size W0 w3 from Below.trans belA (hb.mono (by first | omega | (simp <;> omega)))); clear hb); go_wp2_with fail; refine hK.out _ _ ?_ (fun hHeld => ?_); (focus (first | exact hS | (simp [*, go_sem]; done) | fail)); clear hK K; (try simp only [Act.put, nA, nB, nC]); refine wpAnyH_ready (rs := [7]) (by kernel_rfl) (by simp) ?_; refine AllReadyH.cons rfl (fun K hK => ?_) AllReadyH.nil; go_simp; (go_at_call 75; refine Calls.mono (HLX.out _) ?_; rintro e0 w4 ⟨rfl, hb⟩; have hS := HKP.out _ _ hb hHeld; have HB4 := Lib.hid (HB3.out.trans (hb.mono HB3.out.size)); clear hb); go_wp2_with fail; refine hK.out _ _ ?_ (fun hHeld => ?_); (focus (first | exact hS | (simp [*, go_sem]; done) | fail)); clear hK K; (try simp only [Act.put, nA, nB, nC]); refine rt 9 (some 30) (v := ?_) rfl rfl ?_ ?_; rotate_left; (focus (intro w' hSw; (try dsimp only at hSw); go_simp; (try with_reducible rfl))); (try simp only [Act.put, nA, nB, nC]); refine wpAnyH_done (by kernel_rfl) ?_ _)
      clear hHeld hS
      rw [eq3L.out]
      have HB5 := Lib.hid (hB.trans (HB4.out.mono hB.size))
      have hN64 : N ≤ 60 := hN60
      cases hP : (LX == LF)
      · have hst : Hid (lbC k n e (a + 1) = lbC k n e a) := Lib.hid (by rw [hnx.out, hPL.out, hP]; rfl)
        clear hP
        obtain ⟨C, hC⟩ : ∃ C, Hid (lbC k n e a = C) := ⟨_, Lib.hid rfl⟩
        rw [hC.out] at hbc hst ⊢
        go_wp2_with fail
        go_roundw
        case rel => exact ⟨a + 1, by omega, by go_num, by rw [hst.out], HB5.out⟩
        case measure => simp [intOf]; omega
      · have hst : Hid (lbC k n e (a + 1) = lbC k n e a + 1) := Lib.hid (by rw [hnx.out, hPL.out, hP]; rfl)
        clear hP
        obtain ⟨C, hC⟩ : ∃ C, Hid (lbC k n e a = C) := ⟨_, Lib.hid rfl⟩
        rw [hC.out] at hbc hst ⊢
        have hw : IntKind.i64.wrap (C + 1) = C + 1 := by rw [IntKind.wrap_i64]; omega
        go_wp2_with fail
        go_roundw
        case rel => exact ⟨a + 1, by omega, by go_num, by rw [hst.out], HB5.out⟩
        case measure => simp [intOf]; omega
    · have e9 : a = N := by omega
      subst e9
      have hk8 : ¬ (a : Int) < (a : Int) := by omega
      obtain ⟨C, hC⟩ : ∃ C, lbC k n e a = C := ⟨_, rfl⟩
      rw [hC] at HRT hbc ⊢
      obtain ⟨⟨r0, r1⟩, rf0, rf1⟩ : (W0.cell? ⟨w.heap.size + 1, 0, none⟩ = some (.int .i64 0) ∧ W0.cell? ⟨w.heap.size + 1, 1, none⟩ = some (.int .i64 0)) ∧ W0.frozen? ⟨w.heap.size + 1, 0, none⟩ = false ∧ W0.frozen? ⟨w.heap.size + 1, 1, none⟩ = false := by simp [World.cell?, World.frozen?, b1]
      have y1 := blklt b1
      have B1 := Lib.hid b1
      have HBW := Lib.hid (HB2.out.trans (hB.mono HB2.out.size))
      clear hC b0 b1 bL
      go_wp2_with fail
      refine Calls.mono (HRT.out _) ?_
      rintro e0 w5 ⟨rfl, hb⟩
      have k1 := bblk hb y1 B1.out
      obtain ⟨q0, q1, qf0, qf1⟩ := blk2 k1
      have y5 := blklt k1
      have HB5 := Lib.hid (HBW.out.trans (hb.mono HBW.out.size))
      have hb5 := HB5.out
      clear hb k1 r0 r1 rf0 rf1
      go_wp2_with fail
      refine bodyPost_ret (v := .agg #[.int .i64 X, .int .i64 Y]) (by simp [results, Tryz.results128, go_sem, *]) rfl ⟨rfl, belA⟩
end Go.Proofs.YtpcjinbbgnmchaaGreat

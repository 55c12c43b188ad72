/- spec.SumOfFlags. -/
import Derived.Test.YtpcjinbbgnmchaaIe
import Derived.Test.YtpcjinbbgnmchaaVt
namespace Go.Proofs.Ytpcjinbbgnmchaa
open Go.ChangeShapes Go.WideShapes Go.RowKit
set_option linter.unusedVariables false
set_option linter.unusedSimpArgs false
attribute [local irreducible] Calls
theorem anyT_take {P : Trm → Bool} {T : List Trm} {k : Nat} {d : Trm} (h : T[k]? = some d) : anyT P (T.take (k + 1)) = (anyT P (T.take k) || P d) := by
  unfold anyT
  rw [List.take_add_one, h, List.any_append]
  simp
theorem anyT_of_take {P : Trm → Bool} {T : List Trm} {k : Nat} (h : anyT P (T.take k) = true) : anyT P T = true := by
  unfold anyT at h ⊢
  obtain ⟨d, hd, hp⟩ := List.any_eq_true.1 h
  exact List.any_eq_true.2 ⟨d, List.mem_of_mem_take hd, hp⟩
/-- Whether all terms so far are right. -/
def okT1 (g : Bool) (P : Trm → Bool) (T : List Trm) : Bool := g && !anyT P T
theorem okT1_take {g : Bool} {P : Trm → Bool} {T : List Trm} {k : Nat} {d : Trm} (h : T[k]? = some d) (hk : okT1 g P (T.take k) = true) : okT1 g P (T.take (k + 1)) = !P d := by
  unfold okT1 at hk ⊢
  rw [Bool.and_eq_true, Bool.not_eq_true'] at hk
  rw [anyT_take h, hk.1, hk.2]
  simp
theorem okT1_no {g : Bool} {P : Trm → Bool} {T : List Trm} {k : Nat} (hk : okT1 g P (T.take k) = false) : g = false ∨ anyT P T = true := by
  unfold okT1 at hk
  cases g
  · exact .inl rfl
  · right
    exact anyT_of_take (k := k) (by simpa using hk)
theorem okT1_yes {g : Bool} {P : Trm → Bool} {T : List Trm} (hk : okT1 g P T = true) : g = true ∧ anyT P T = false := by
  unfold okT1 at hk
  rw [Bool.and_eq_true, Bool.not_eq_true'] at hk
  exact hk
set_option maxHeartbeats 8000000 in
set_option maxRecDepth 100000 in
theorem sSumOfFlags_any (w : World) (tn te s : Int) (T : List Trm) (v : Value) (hT : Lst shTerm w T v) (he : 0 ≤ te ∧ te ≤ 4294967295) (hl : T.length ≤ 1048576) :
    Calls Try.prog 14 #[.agg #[.int .i64 tn, .int .u32 te], .int .i64 s, v] w (SumRet w.heap.size w (sfC tn te s T) (tdT (sfC tn te s T) (tn, te)) (tdS (sfC tn te s T) s) (tdL (sfC tn te s T) (nzT (fI (lsT T)).2))) := by
  obtain ⟨A, cap, rfl, _, _, hoks, hel⟩ := lstTerm hT
  have HE := Lib.hid he
  have HOK := Lib.hid hoks
  obtain ⟨N, hN⟩ : ∃ N, Hid (T.length = N) := ⟨_, Lib.hid rfl⟩
  rw [hN.out] at hel hl ⊢
  have HEL := Lib.hid hel
  obtain ⟨g, hg⟩ : ∃ g, Hid (grOk tn te = g) := ⟨_, Lib.hid rfl⟩
  obtain ⟨g2, hg2⟩ : ∃ g2, Hid (spOk tn s = g2) := ⟨_, Lib.hid rfl⟩
  have HG1 : Hid (∀ W, Calls Try.prog 29 #[.agg #[.int .i64 tn, .int .u32 te]] W fun e0 w' => e0 = .returned (.bool g) ∧ Below W.heap.size W w') := Lib.hid fun W => by rw [← hg.out]; exact l01Ok_any tn te W he
  have HG2 : Hid (∀ W, Calls Try.prog 31 #[.agg #[.int .i64 tn, .int .u32 te], .int .i64 s] W fun e0 w' => e0 = .returned (.bool g2) ∧ Below W.heap.size W w') := Lib.hid fun W => by rw [← hg2.out]; exact l05Frame_any tn te s W
  clear hT hoks he hel
  go_enter Try.func14, Try.ntmps14
  go_wp2_with fail
  refine Calls.mono (HG1.out _) ?_
  rintro e0 w1 ⟨rfl, hb⟩
  have k0 : w1.heap[w.heap.size]? = some (.cells #[.int .i64 tn, .int .u32 te] 31 (0, 0)) := bblk hb (by simp <;> omega) blkA
  have k1 : w1.heap[w.heap.size + 1]? = some (.cells #[.int .i64 0, .int .u32 0, .int .i64 0, .slice none 0 0] 34 (0, 0)) := bblk hb (by simp <;> omega) blkA
  have HB1 := Lib.hid (show Below w.heap.size w w1 from Below.trans belA (hb.mono (by simp <;> omega)))
  have K0 := Lib.hid k0
  have K1 := Lib.hid k1
  clear hb k0 k1
  go_wp2_with fail
  go_loopw [8, 9] (fun ov i wr => ∃ (k : Nat), k ≤ N ∧ i = .int .i64 k ∧ ov = .bool (okT1 g badT (T.take k)) ∧ wr.heap[w.heap.size]? = some (.cells #[.int .i64 tn, .int .u32 te] 31 (0, 0)) ∧ wr.heap[w.heap.size + 1]? = some (.cells #[.int .i64 0, .int .u32 0, .int .i64 0, .slice none 0 0] 34 (0, 0)) ∧ Below w.heap.size w wr) (fun ov i _ => N - (intOf i).toNat)
  case atStart => exact ⟨0, Nat.zero_le _, rfl, by show Value.bool g = _; unfold okT1 anyT; simp, K0.out, K1.out, HB1.out⟩
  case round =>
    obtain ⟨k, hk, rfl, rfl, b0, b1, hB⟩ := hrel
    obtain ⟨W0, rfl⟩ : ∃ x, x = wr := ⟨_, rfl⟩
    have hzB := hB.size
    obtain ⟨t0, t1⟩ := blkc2 b0
    obtain ⟨⟨r0, r1, r2, r3⟩, f0, f1, f2, f3⟩ := blk4 b1
    have y0 := blklt b0
    have y1 := blklt b1
    have B0 := Lib.hid b0
    have B1 := Lib.hid b1
    clear b0 b1
    obtain ⟨r, hr⟩ : ∃ r, okT1 g badT (T.take k) = r := ⟨_, rfl⟩
    rw [hr]
    cases r
    · have hc : Hid (sfC tn te s T = 1) := Lib.hid (by
        unfold sfC
        rcases okT1_no hr with h | h
        · rw [show tyC tn te s = 1 from by unfold tyC; rw [hg.out, h]; rfl]
          split <;> rfl
        · rw [h]; rfl)
      clear hr
      by_cases hlt : k < N
      · have hk8 : (k : Int) < (N : Int) := by omega
        go_wp2_with fail
        refine bodyPost_ret (v := .tuple #[.agg #[.int .i64 0, .int .u32 0, .int .i64 0, .slice none 0 0], .int .i64 1]) (by simp [results, Try.results14, go_sem, *]) rfl ?_
        rw [hc.out]
        exact sumRet_no rfl rfl rfl belA rfl
      · have hk8 : ¬ (k : Int) < (N : Int) := by omega
        go_wp2_with fail
        refine bodyPost_ret (v := .tuple #[.agg #[.int .i64 0, .int .u32 0, .int .i64 0, .slice none 0 0], .int .i64 1]) (by simp [results, Try.results14, go_sem, *]) rfl ?_
        rw [hc.out]
        exact sumRet_no rfl rfl rfl belA rfl
    have HR := Lib.hid hr
    clear hr
    by_cases hlt : k < N
    · have hk8 : (k : Int) < (N : Int) := by omega
      obtain ⟨bl, off, rfl, hel⟩ := HEL.out (by omega)
      obtain ⟨d, hd, hok, x0, x1, x2, x3, x4⟩ := hel k hlt
      have zb := World.block_lt_of_cell? _ _ x0
      simp only at zb
      replace x0 := bkeep hB x0
      replace x1 := bkeep hB x1
      replace x2 := bkeep hB x2
      replace x3 := bkeep hB x3
      replace x4 := bkeep hB x4
      have hnx := Lib.hid (okT1_take hd HR.out)
      have HO := Lib.hid hok.1
      obtain ⟨i1, i2⟩ := i64_wf hok.2.1
      obtain ⟨i3, i4⟩ := i64_wf hok.2.2
      clear hel hd hok t0 t1 r0 r1 r2 r3 f0 f1 f2 f3
      cases hf : flV d.1
      · have hq : Hid (badT d = true) := Lib.hid (by unfold badT badFl; rw [hf]; rfl)
        have HF := Lib.hid hf
        clear hf
        go_wp2_with fail
        refine Calls.mono (l03Ok_i _ d.1 HO.out) ?_
        rw [HF.out]
        rintro e0 w2 ⟨rfl, hb⟩
        have HB2 := Lib.hid hb
        have K02 := Lib.hid (bblk hb y0 B0.out)
        have K12 := Lib.hid (bblk hb y1 B1.out)
        clear hb x0 x1 x2 x3 x4 y0 y1
        go_wp2_with fail
        go_roundw
        case rel => exact ⟨k + 1, by omega, by go_num, by rw [hnx.out, hq.out]; rfl, K02.out, K12.out, hB.trans (HB2.out.mono hzB)⟩
        case measure => simp [intOf]; omega
      · have hq : Hid (badT d = !frOk d.2.1 d.2.2) := Lib.hid (by unfold badT badFl badF; rw [hf]; rfl)
        have HF := Lib.hid hf
        clear hf
        go_wp2_with fail
        refine Calls.mono (l03Ok_i _ d.1 HO.out) ?_
        rw [HF.out]
        rintro e0 w2 ⟨rfl, hb⟩
        have HB2 := Lib.hid hb
        have K02 := Lib.hid (bblk hb y0 B0.out)
        have K12 := Lib.hid (bblk hb y1 B1.out)
        replace x3 := bkeep hb x3
        replace x4 := bkeep hb x4
        have zb2 : bl < w2.heap.size := World.block_lt_of_cell? _ _ x3
        clear hb x0 x1 x2 y0 y1
        go_wp2_with fail
        refine Calls.mono (sok_any _ _ _ i1 i2 i3 i4) ?_
        rintro e0 w3 ⟨rfl, hb⟩
        have HB3 := Lib.hid hb
        have K03 := Lib.hid (bblk hb (blklt K02.out) K02.out)
        have K13 := Lib.hid (bblk hb (blklt K12.out) K12.out)
        clear hb x3 x4
        go_wp2_with fail
        go_roundw
        case rel => exact ⟨k + 1, by omega, by go_num, by rw [hnx.out, hq.out, Bool.not_not], K03.out, K13.out, (hB.trans (HB2.out.mono hzB)).trans (HB3.out.mono (Nat.le_trans hzB HB2.out.size))⟩
        case measure => simp [intOf]; omega
    have e : k = N := by omega
    subst e
    have hk8 : ¬ (k : Int) < (k : Int) := by omega
    rw [show T.take k = T from List.take_of_length_le (by rw [hN.out]; exact Nat.le_refl _)] at HR
    obtain ⟨hgt, hbt⟩ := okT1_yes HR.out
    have HBT := Lib.hid hbt
    have HGT : Hid (grOk tn te = true) := Lib.hid (by rw [hg.out]; exact hgt)
    clear hgt hbt
    obtain ⟨M, hM⟩ : ∃ M, M = k := ⟨_, rfl⟩
    subst hM
    go_wp2_with fail
    refine Calls.mono (HG2.out _) ?_
    rintro e0 w2 ⟨rfl, hb⟩
    have K0 := Lib.hid (bblk hb y0 B0.out)
    have K1 := Lib.hid (bblk hb y1 B1.out)
    have HB2 := Lib.hid (hB.trans (hb.mono hzB))
    clear hb t0 t1 r0 r1 r2 r3 f0 f1 f2 f3 y0 y1 B0 B1 hB hzB HB1
    go_wp2_with fail
    go_loopw [8, 10] (fun ov i wr => ∃ (k : Nat), k ≤ M ∧ i = .int .i64 k ∧ ov = .bool (okT1 g2 (outT tn te s) (T.take k)) ∧ wr.heap[w.heap.size]? = some (.cells #[.int .i64 tn, .int .u32 te] 31 (0, 0)) ∧ wr.heap[w.heap.size + 1]? = some (.cells #[.int .i64 0, .int .u32 0, .int .i64 0, .slice none 0 0] 34 (0, 0)) ∧ Below w.heap.size w wr) (fun ov i _ => M - (intOf i).toNat)
    case atStart => exact ⟨0, Nat.zero_le _, rfl, by show Value.bool g2 = _; unfold okT1 anyT; simp, K0.out, K1.out, HB2.out⟩
    case round =>
      obtain ⟨k, hk, rfl, rfl, b0, b1, hB⟩ := hrel
      obtain ⟨W2, rfl⟩ : ∃ x, x = wr := ⟨_, rfl⟩
      have hzB := hB.size
      obtain ⟨t0, t1⟩ := blkc2 b0
      obtain ⟨⟨r0, r1, r2, r3⟩, f0, f1, f2, f3⟩ := blk4 b1
      have y0 := blklt b0
      have y1 := blklt b1
      have B0 := Lib.hid b0
      have B1 := Lib.hid b1
      clear b0 b1
      obtain ⟨r, hr⟩ : ∃ r, okT1 g2 (outT tn te s) (T.take k) = r := ⟨_, rfl⟩
      rw [hr]
      cases r
      · have hc : Hid (sfC tn te s T = 2) := Lib.hid (by
          unfold sfC
          rw [HBT.out]
          show (if tyC tn te s = 0 then _ else _) = _
          rcases okT1_no hr with h | h
          · rw [show tyC tn te s = 2 from by unfold tyC; rw [HGT.out, hg2.out, h]; rfl]
            rfl
          · rw [h]
            unfold tyC
            rw [HGT.out, hg2.out]
            cases g2 <;> rfl)
        clear hr
        by_cases hlt : k < M
        · have hk8 : (k : Int) < (M : Int) := by omega
          go_wp2_with fail
          refine bodyPost_ret (v := .tuple #[.agg #[.int .i64 0, .int .u32 0, .int .i64 0, .slice none 0 0], .int .i64 2]) (by simp [results, Try.results14, go_sem, *]) rfl ?_
          rw [hc.out]
          exact sumRet_no rfl rfl rfl belA rfl
        · have hk8 : ¬ (k : Int) < (M : Int) := by omega
          go_wp2_with fail
          refine bodyPost_ret (v := .tuple #[.agg #[.int .i64 0, .int .u32 0, .int .i64 0, .slice none 0 0], .int .i64 2]) (by simp [results, Try.results14, go_sem, *]) rfl ?_
          rw [hc.out]
          exact sumRet_no rfl rfl rfl belA rfl
      have HR2 := Lib.hid hr
      clear hr
      by_cases hlt : k < M
      · have hk8 : (k : Int) < (M : Int) := by omega
        obtain ⟨bl, off, rfl, hel⟩ := HEL.out (by omega)
        obtain ⟨d, hd, hok, x0, x1, x2, x3, x4⟩ := hel k hlt
        have zb := World.block_lt_of_cell? _ _ x0
        simp only at zb
        replace x0 := bkeep hB x0
        replace x1 := bkeep hB x1
        replace x2 := bkeep hB x2
        have zb2 : bl < W2.heap.size := World.block_lt_of_cell? _ _ x0
        have hnx := Lib.hid (okT1_take hd HR2.out)
        have hF1 := badT_no (anyT_no HBT.out d (List.mem_of_getElem? hd))
        have hd5 : 0 ≤ d.1.1 ∧ d.1.1 ≤ 5 := by have := (flV_iff d.1).1 hF1.1; omega
        clear hel hd hok x3 x4 r0 r1 r2 r3 f0 f1 f2 f3 hF1
        go_wp2_with fail
        (refine wp_region_held_drew (S := (fun w' => w'.cell? ⟨bl, off + k * 5, none⟩ = some (.int .i64 d.1.1) ∧ w'.cell? ⟨bl, off + k * 5 + 1, none⟩ = some (.int .i64 d.1.2.1) ∧ w'.cell? ⟨bl, off + k * 5 + 2, none⟩ = some (.int .u32 d.1.2.2) ∧ w'.cell? ⟨w.heap.size, 0, none⟩ = some (.int .i64 tn) ∧ w'.cell? ⟨w.heap.size, 1, none⟩ = some (.int .u32 te))) (by kernel_rfl) ?_ (fun hHeld => ?_); (focus (first | exact hS | (simp [*, go_sem]; done) | fail)); refine rt 0 (some 53) (v := ?_) rfl rfl ?_ ?_; rotate_left; (focus (intro w' hSw; (try dsimp only at hSw); go_simp; (try with_reducible rfl))); (try simp only [Act.put, nA, nB, nC]); refine rt 1 (some 54) (v := ?_) rfl rfl ?_ ?_; rotate_left; (focus (intro w' hSw; (try dsimp only at hSw); go_simp; (try with_reducible rfl))); (try simp only [Act.put, nA, nB, nC]); refine rt 2 (some 55) (v := ?_) rfl rfl ?_ ?_; rotate_left; (focus (intro w' hSw; (try dsimp only at hSw); go_simp; (try with_reducible rfl))); (try simp only [Act.put, nA, nB, nC]); refine rt 3 (some 56) (v := ?_) rfl rfl ?_ ?_; rotate_left; (focus (intro w' hSw; (try dsimp only at hSw); go_simp; (try with_reducible rfl))); (try simp only [Act.put, nA, nB, nC]); refine rt 4 (some 57) (v := ?_) rfl rfl ?_ ?_; rotate_left; (focus (intro w' hSw; (try dsimp only at hSw); go_simp; (try with_reducible rfl))); (try simp only [Act.put, nA, nB, nC]); refine rt 5 (some 58) (v := ?_) rfl rfl ?_ ?_; rotate_left; (focus (intro w' hSw; (try dsimp only at hSw); go_simp; (try with_reducible rfl))); (try simp only [Act.put, nA, nB, nC]); refine rt 6 (some 59) (v := ?_) rfl rfl ?_ ?_; rotate_left; (focus (intro w' hSw; (try dsimp only at hSw); go_simp; (try with_reducible rfl))); (try simp only [Act.put, nA, nB, nC]); refine wpAnyH_ready (rs := [7]) (by kernel_rfl) (by simp) ?_; refine AllReadyH.cons rfl (fun K hK => ?_) AllReadyH.nil; go_simp; (go_at_call 32; refine Calls.mono (l05Fits_any _ d.1 tn te s hd5) ?_; rintro e0 w3 ⟨rfl, hb⟩; have hS := And.intro (bkeep hb hHeld.1) (And.intro (bkeep hb hHeld.2.1) (And.intro (bkeep hb hHeld.2.2.1) (And.intro (bkeep hb hHeld.2.2.2.1) (bkeep hb hHeld.2.2.2.2)))); have hb3 := hb; have HB3 := Lib.hid (show Below W2.heap.size W2 w3 from Below.trans belA (hb.mono (by first | omega | (simp <;> omega)))); clear hb hb3); go_wp2_with fail; refine hK.out _ _ ?_ (fun hHeld => ?_); (focus (first | exact hS | (simp [*, go_sem]; done) | fail)); clear hK K; (try simp only [Act.put, nA, nB, nC]); refine rt 8 (some 8) (v := ?_) rfl rfl ?_ ?_; rotate_left; (focus (intro w' hSw; (try dsimp only at hSw); go_simp; (try with_reducible rfl))); (try simp only [Act.put, nA, nB, nC]); refine wpAnyH_done (by kernel_rfl) ?_ _)
        clear hHeld hS
        have K03 := Lib.hid (bblk HB3.out y0 B0.out)
        have K13 := Lib.hid (bblk HB3.out y1 B1.out)
        clear x0 x1 x2 t0 t1 y0 y1
        go_wp2_with fail
        go_roundw
        case rel => exact ⟨k + 1, by omega, by go_num, by rw [hnx.out]; show Value.bool (fitsB d.1 tn te s) = Value.bool (!!fitsB d.1 tn te s); rw [Bool.not_not], K03.out, K13.out, hB.trans (HB3.out.mono hzB)⟩
        case measure => simp [intOf]; omega
      have e : k = M := by omega
      subst e
      have hk8 : ¬ (k : Int) < (k : Int) := by omega
      rw [show T.take k = T from List.take_of_length_le (by rw [hN.out]; exact Nat.le_refl _)] at HR2
      obtain ⟨hgt, hbt⟩ := okT1_yes HR2.out
      have hc : Hid (sfC tn te s T = enC (fB (lsT T)).1 (fB (lsT T)).2 ∧ (sfC tn te s T = 0 → (fB (lsT T)).2 = (fI (lsT T)).2)) := Lib.hid (by
        have h0 : tyC tn te s = 0 := by unfold tyC; rw [HGT.out, hg2.out, hgt]; rfl
        have h1 : sfC tn te s T = tdC (fI (lsT T)).1 (fI (lsT T)).2 := by unfold sfC; rw [HBT.out, if_pos h0, hbt]; rfl
        have h2 := fI_code (lsT_frame HBT.out hbt)
        exact ⟨by rw [h1, h2.1], fun h => h2.2 (by rw [← h1]; exact h)⟩)
      have HFR := Lib.hid (lsT_frame HBT.out hbt)
      have HBV := Lib.hid (anyT_no HBT.out)
      clear hgt hbt
      go_wp2_with fail
      refine Calls.mono (bBegin_any _ tn te s) ?_
      rintro e0 w3 ⟨bb, rfl, hBl, hb⟩
      have K13 := Lib.hid (bblk hb y1 B1.out)
      have HB3 := Lib.hid (hB.trans (hb.mono hzB))
      have HBL := Lib.hid hBl
      have hz2 : w.heap.size + 1 < W2.heap.size := y1
      have hz3 := hb.size
      clear hb hBl t0 t1 r0 r1 r2 r3 f0 f1 f2 f3 y0 y1 B0 B1 HB2 hB
      go_wp2_with fail
      go_loopw [12] (fun i wr => ∃ (j : Nat), j ≤ k ∧ i = .int .i64 j ∧ wr.heap[w.heap.size + 1]? = some (.cells #[.int .i64 0, .int .u32 0, .int .i64 0, .slice none 0 0] 34 (0, 0)) ∧ Hid (Bld W2.heap.size wr bb tn te s (fB ((lsT T).take j)).1 (fB ((lsT T).take j)).2) ∧ Below w.heap.size w wr ∧ W2.heap.size ≤ wr.heap.size) (fun i _ => k - (intOf i).toNat)
      case atStart => exact ⟨0, Nat.zero_le _, rfl, K13.out, Lib.hid HBL.out, HB3.out, hz3⟩
      case round =>
        obtain ⟨j, hj, rfl, b1, hBl, hB, hzz⟩ := hrel
        obtain ⟨W5, rfl⟩ : ∃ x, x = wr := ⟨_, rfl⟩
        have hzB := hB.size
        have y1 := blklt b1
        have B1 := Lib.hid b1
        obtain ⟨⟨r0, r1, r2, r3⟩, f0, f1, f2, f3⟩ := blk4 b1
        clear b1
        by_cases hlt : j < k
        · have hk9 : (j : Int) < (k : Int) := by omega
          obtain ⟨bl, off, rfl, hel⟩ := HEL.out (by omega)
          obtain ⟨d, hd, hok, x0, x1, x2, x3, x4⟩ := hel j hlt
          have zb := World.block_lt_of_cell? _ _ x0
          simp only at zb
          replace x0 := bkeep hB x0
          replace x1 := bkeep hB x1
          replace x2 := bkeep hB x2
          replace x3 := bkeep hB x3
          replace x4 := bkeep hB x4
          have zb2 : bl < W5.heap.size := World.block_lt_of_cell? _ _ x0
          have hV1 := badT_no (HBV.out d (List.mem_of_getElem? hd))
          have hnx := Lib.hid (fB_take (lsT_at hd))
          have HLE := Lib.hid (fun W => sleast_i W d.1 hok.1 hV1.1)
          have HQ := Lib.hid hV1.2
          have HFO : Hid (okFlag (lfF d.1)) := Lib.hid ⟨hok.1.1, hok.1.2.1, leastI_ok _ _ hok.1.2.2⟩
          have HMI : Hid ((fB ((lsT T).take j)).1 = 0 → ∀ x ∈ (fB ((lsT T).take j)).2, inF x.2) := Lib.hid (fB_in (fun x hx => HFR.out x (List.mem_of_mem_take hx)))
          have HLL : Hid ((fB ((lsT T).take j)).2.length ≤ 1048576) := Lib.hid (by
            have h := fB_len ((lsT T).take j)
            rw [List.length_take, lsT_len, hN.out] at h
            omega)
          obtain ⟨LF, hLF⟩ : ∃ LF, Hid (leastF d.1 = LF) := ⟨_, Lib.hid rfl⟩
          obtain ⟨C5, hC5⟩ : ∃ C5, fB ((lsT T).take j) = C5 := ⟨_, rfl⟩
          rw [hC5] at hBl HMI HLL hnx
          have hnx2 : Hid (adB (C5.1, C5.2) (d.1.1, (d.1.2.1, LF)) d.2 = fB ((lsT T).take (j + 1))) := Lib.hid (by rw [hnx.out, ← hLF.out]; rfl)
          have HFO2 : Hid (okFlag (d.1.1, (d.1.2.1, LF))) := Lib.hid (by rw [← hLF.out]; exact HFO.out)
          clear hel hd hok hV1 hC5 hnx HFO r0 r1 r2 r3 f0 f1 f2 f3
          go_wp2_with fail
          (refine last_region (S := (fun w' => w'.cell? ⟨bl, off + j * 5, none⟩ = some (.int .i64 d.1.1) ∧ w'.cell? ⟨bl, off + j * 5 + 1, none⟩ = some (.int .i64 d.1.2.1) ∧ w'.cell? ⟨bl, off + j * 5 + 2, none⟩ = some (.int .u32 d.1.2.2) ∧ w'.cell? ⟨bl, off + j * 5 + 3, none⟩ = some (.int .i64 d.2.1) ∧ w'.cell? ⟨bl, off + j * 5 + 4, none⟩ = some (.int .i64 d.2.2))) 12 (by kernel_rfl) ?_ (fun hHeld => ?_); (focus (first | exact hS | (simp [*, go_sem]; done) | fail)); refine last_take 0 (some 73) (v := ?_) rfl (by kernel_rfl) (by kernel_rfl) (by kernel_rfl) (by kernel_rfl) (by decide) (by kernel_rfl) (fun _ _ _ h => h) (Or.inl ⟨by kernel_rfl, ?_⟩) (by assumption) ?_; rotate_left; (focus (intro w' hSw; (try dsimp only at hSw); go_simp; (try with_reducible rfl))); (try simp only [Act.put, nA, nB, nC]); refine last_take 1 (some 74) (v := ?_) rfl (by kernel_rfl) (by kernel_rfl) (by kernel_rfl) (by kernel_rfl) (by decide) (by kernel_rfl) (fun _ _ _ h => h) (Or.inl ⟨by kernel_rfl, ?_⟩) (by assumption) ?_; rotate_left; (focus (intro w' hSw; (try dsimp only at hSw); go_simp; (try with_reducible rfl))); (try simp only [Act.put, nA, nB, nC]); refine last_take 2 (some 75) (v := ?_) rfl (by kernel_rfl) (by kernel_rfl) (by kernel_rfl) (by kernel_rfl) (by decide) (by kernel_rfl) (fun _ _ _ h => h) (Or.inl ⟨by kernel_rfl, ?_⟩) (by assumption) ?_; rotate_left; (focus (intro w' hSw; (try dsimp only at hSw); go_simp; (try with_reducible rfl))); (try simp only [Act.put, nA, nB, nC]); refine last_take 3 (some 76) (v := ?_) rfl (by kernel_rfl) (by kernel_rfl) (by kernel_rfl) (by kernel_rfl) (by decide) (by kernel_rfl) (fun _ _ _ h => h) (Or.inl ⟨by kernel_rfl, ?_⟩) (by assumption) ?_; rotate_left; (focus (intro w' hSw; (try dsimp only at hSw); go_simp; (try with_reducible rfl))); (try simp only [Act.put, nA, nB, nC]); refine last_take 4 (some 77) (v := ?_) rfl (by kernel_rfl) (by kernel_rfl) (by kernel_rfl) (by kernel_rfl) (by decide) (by kernel_rfl) (fun _ _ _ h => h) (Or.inl ⟨by kernel_rfl, ?_⟩) (by assumption) ?_; rotate_left; (focus (intro w' hSw; (try dsimp only at hSw); go_simp; (try with_reducible rfl))); (try simp only [Act.put, nA, nB, nC]); refine last_take 5 (some 78) (v := ?_) rfl (by kernel_rfl) (by kernel_rfl) (by kernel_rfl) (by kernel_rfl) (by decide) (by kernel_rfl) (fun _ _ _ h => h) (Or.inl ⟨by kernel_rfl, ?_⟩) (by assumption) ?_; rotate_left; (focus (intro w' hSw; (try dsimp only at hSw); go_simp; (try with_reducible rfl))); (try simp only [Act.put, nA, nB, nC]); refine last_take 7 (some 80) (v := ?_) rfl (by kernel_rfl) (by kernel_rfl) (by kernel_rfl) (by kernel_rfl) (by decide) (by kernel_rfl) (fun _ _ _ h => h) (Or.inl ⟨by kernel_rfl, ?_⟩) (by assumption) ?_; rotate_left; (focus (intro w' hSw; (try dsimp only at hSw); go_simp; (try with_reducible rfl))); (try simp only [Act.put, nA, nB, nC]); refine last_take 8 (some 81) (v := ?_) rfl (by kernel_rfl) (by kernel_rfl) (by kernel_rfl) (by kernel_rfl) (by decide) (by kernel_rfl) (fun _ _ _ h => h) (Or.inl ⟨by kernel_rfl, ?_⟩) (by assumption) ?_; rotate_left; (focus (intro w' hSw; (try dsimp only at hSw); go_simp; (try with_reducible rfl))); (try simp only [Act.put, nA, nB, nC]); refine last_take 9 (some 82) (v := ?_) rfl (by kernel_rfl) (by kernel_rfl) (by kernel_rfl) (by kernel_rfl) (by decide) (by kernel_rfl) (fun _ _ _ h => h) (Or.inl ⟨by kernel_rfl, ?_⟩) (by assumption) ?_; rotate_left; (focus (intro w' hSw; (try dsimp only at hSw); go_simp; (try with_reducible rfl))); (try simp only [Act.put, nA, nB, nC]); refine last_take 10 (some 83) (v := ?_) rfl (by kernel_rfl) (by kernel_rfl) (by kernel_rfl) (by kernel_rfl) (by decide) (by kernel_rfl) (fun _ _ _ h => h) (Or.inl ⟨by kernel_rfl, ?_⟩) (by assumption) ?_; rotate_left; (focus (intro w' hSw; (try dsimp only at hSw); go_simp; (try with_reducible rfl))); (try simp only [Act.put, nA, nB, nC]); refine last_take 11 (some 84) (v := ?_) rfl (by kernel_rfl) (by kernel_rfl) (by kernel_rfl) (by kernel_rfl) (by decide) (by kernel_rfl) (fun _ _ _ h => h) (Or.inl ⟨by kernel_rfl, ?_⟩) (by assumption) ?_; rotate_left; (focus (intro w' hSw; (try dsimp only at hSw); go_simp; (try with_reducible rfl))); (try simp only [Act.put, nA, nB, nC]); refine last_ready (i := 6) (by kernel_rfl) rfl (fun K hK => ?_); go_simp; (go_at_call 35; refine Calls.mono (HLE.out _) ?_; rw [hLF.out]; rintro e0 w6 ⟨rfl, hb⟩; have hS := And.intro (bkeep hb hHeld.1) (And.intro (bkeep hb hHeld.2.1) (And.intro (bkeep hb hHeld.2.2.1) (And.intro (bkeep hb hHeld.2.2.2.1) (bkeep hb hHeld.2.2.2.2)))); have HB6 := Lib.hid (show Below W5.heap.size W5 w6 from Below.trans belA (hb.mono (by first | omega | (simp <;> omega)))); clear hb); go_wp2_with fail; refine hK.out _ _ ?_ (fun hHeld => ?_); (focus (first | exact hS | (simp [*, go_sem]; done) | fail)); clear hK K; (try simp only [Act.put, nA, nB, nC]); refine last_end (by kernel_rfl) rfl (fun K hK => ?_); go_simp; (go_at_call 34; refine Calls.mono (bAdd_any _ W2.heap.size bb tn te s C5.1 C5.2 (d.1.1, (d.1.2.1, LF)) d.2 (hBl.out.below HB6.out) HFO2.out HQ.out HMI.out HLL.out) ?_; rw [hnx2.out]; rintro e0 w7 ⟨rfl, hBl7, hb⟩; have HBL7 := Lib.hid hBl7; have HB7 := Lib.hid (show Below W2.heap.size W5 w7 from Below.trans (HB6.out.mono hzz) hb); clear hBl7 hb); go_wp2_with fail; refine hK.out _ _ ?_; clear hK K hHeld; (try simp only [Act.put, nA, nB, nC]); refine last_done (by kernel_rfl) ?_ _)
          clear hHeld
          go_wp2_with fail
          go_roundw
          case rel => exact ⟨j + 1, by omega, by go_num, bblk HB7.out hz2 B1.out, HBL7, hB.trans (HB7.out.mono (by omega)), Nat.le_trans hzz HB7.out.size⟩
          case measure => simp [intOf]; omega
        · have e : j = k := by omega
          subst e
          have htk : Hid ((lsT T).take j = lsT T) := Lib.hid (List.take_of_length_le (by rw [lsT_len, hN.out]; exact Nat.le_refl _))
          rw [htk.out] at hBl
          have HLL : (fB (lsT T)).2.length ≤ 1048576 := by
            have h := fB_len (lsT T)
            rw [lsT_len, hN.out] at h
            omega
          obtain ⟨C5, hC5⟩ : ∃ C5, Hid (fB (lsT T) = C5) := ⟨_, Lib.hid rfl⟩
          rw [hC5.out] at hBl HLL
          have HEND := Lib.hid (bEnd_any W5 W2.heap.size bb tn te s C5.1 C5.2 hBl.out HLL)
          clear hBl HLL
          go_wp2_with fail
          refine Calls.mono HEND.out ?_
          rintro e0 w6 ⟨A5, cap5, F5, rfl, hO5, hb5⟩
          have kr := bblk hb5 y1 B1.out
          have hbb : Below w.heap.size w w6 := hB.trans (hb5.mono hzB)
          obtain ⟨C, hC⟩ : ∃ C, Hid (enC C5.1 C5.2 = C) := ⟨_, Lib.hid rfl⟩
          rw [hC.out] at hO5 ⊢
          obtain ⟨XL, hXL, NX, hNX⟩ : ∃ XL : List Trm, Hid (tdL C (nzT C5.2) = XL) ∧ ∃ NX : Nat, Hid (XL.length = NX) := ⟨_, Lib.hid rfl, _, Lib.hid rfl⟩
          rw [hXL.out] at hO5 ⊢
          rw [hNX.out] at hO5 ⊢
          have HO5 := Lib.hid hO5
          have hzz5 : W5.heap.size ≤ w6.heap.size := hb5.size
          obtain ⟨⟨c50, c51, c52, c53⟩, f50, f51, f52, f53⟩ := blk4 kr
          have zz5 := blklt kr
          clear hO5 hb5 kr r0 r1 r2 r3 f0 f1 f2 f3
          go_wp2_with fail
          refine bodyPost_ret (v := .tuple #[.agg #[.int .i64 (tdT C (tn, te)).1, .int .u32 (tdT C (tn, te)).2, .int .i64 (tdS C s), .slice A5 NX cap5], .int .i64 C]) (by simp [results, Try.results14, go_sem, *]) rfl ?_
          have hsc : sfC tn te s T = C := by rw [hc.out.1, hC5.out]; exact hC.out
          have hxl : tdL C (nzT (fI (lsT T)).2) = XL := by
            rw [← hXL.out]
            by_cases h0 : C = 0
            · rw [← hc.out.2 (by rw [hsc]; exact h0), hC5.out]
            · show (if C = 0 then _ else _) = (if C = 0 then _ else _)
              rw [if_neg h0, if_neg h0]
          rw [hsc, hxl]
          refine ⟨A5, cap5, F5, ?_, ?_, ?_⟩
          · rw [hNX.out]
          · rw [hNX.out]
            refine HO5.out.move (by omega) fun q h1 _ => ?_
            have hne : q ≠ w.heap.size + 1 := by omega
            exact (Below.heap_setCell _ ⟨w.heap.size + 1, 3, none⟩ _ q hne).trans ((Below.heap_setCell _ ⟨w.heap.size + 1, 2, none⟩ _ q hne).trans ((Below.heap_setCell _ ⟨w.heap.size + 1, 1, none⟩ _ q hne).trans (Below.heap_setCell _ ⟨w.heap.size + 1, 0, none⟩ _ q hne)))
          · exact belA
end Go.Proofs.Ytpcjinbbgnmchaa

/- Where a flag's term stands: slices.BinarySearchFunc at terms, with impl.summing's comparison. -/
import Derived.Test.YtpcjinbbgnmchaaGreatBw
namespace Go.Proofs.YtpcjinbbgnmchaaGreat
open Go.ChangeShapes Go.WideShapes Go.RowKit
set_option linter.unusedVariables false
set_option linter.unusedSimpArgs false
attribute [local irreducible] Calls
/-- Whether a flag's term stands there. -/
def isT (e : Int) (xs : List Trm) : Bool := match xs[posT e xs]? with
  | some d => d.1.2.2 == e
  | none => false
theorem pw_ltE {xs : List Trm} (h : xs.Pairwise ltE) {i j : Nat} {d e : Trm} (hi : xs[i]? = some d) (hj : xs[j]? = some e) (hij : i < j) : d.1.2.2 < e.1.2.2 := by
  obtain ⟨hi', rfl⟩ := List.getElem?_eq_some_iff.1 hi
  obtain ⟨hj', rfl⟩ := List.getElem?_eq_some_iff.1 hj
  exact List.pairwise_iff_getElem.1 h i j hi' hj' hij
theorem posT_ge {e : Int} {xs : List Trm} (h : xs.Pairwise ltE) {m : Nat} {d : Trm} (hd : xs[m]? = some d) (hm : posT e xs ≤ m) : ¬ d.1.2.2 < e := by
  have hlt := (List.getElem?_eq_some_iff.1 hd).1
  obtain ⟨p, hp⟩ : ∃ p, xs[posT e xs]? = some p := ⟨_, List.getElem?_eq_getElem (by omega)⟩
  have h1 := posT_at hp
  rcases Nat.lt_or_eq_of_le hm with h2 | h2
  · have := pw_ltE h hp hd h2
    omega
  · rw [h2, hd] at hp
    injection hp with hp
    rw [hp]
    exact h1
theorem isT_some {e : Int} {xs : List Trm} {d : Trm} (h : xs[posT e xs]? = some d) : isT e xs = (d.1.2.2 == e) := by unfold isT; rw [h]
theorem isT_none {e : Int} {xs : List Trm} (h : xs[posT e xs]? = none) : isT e xs = false := by unfold isT; rw [h]
theorem addCmp_any (d : Trm) (f : Flg) (w : World) : Calls Tryz.prog 130 #[.agg #[.int .i64 d.1.1, .int .i64 d.1.2.1, .int .u32 d.1.2.2, .int .i64 d.2.1, .int .i64 d.2.2], .agg #[.int .i64 f.1, .int .i64 f.2.1, .int .u32 f.2.2]] w fun e w' => e = .returned (.int .i64 (cmpI d.1.2.2 f.2.2)) ∧ Below w.heap.size w w' := by
  go_enter Tryz.func130, Tryz.ntmps130
  go_wp2_with (first | (go_at_call 89; refine Calls.mono (flagOrder_any d.1 f _) ?_; rintro e w1 ⟨rfl, hb⟩; obtain ⟨X, m, rfl⟩ := plsOf hb; clear hb))
  exact bodyPost_ret (v := .int .i64 (cmpI d.1.2.2 f.2.2)) (by simp [results, Tryz.results130, go_sem]) rfl ⟨rfl, belA⟩
set_option maxHeartbeats 4000000 in
theorem findTerm_any (w : World) (xs : List Trm) (v : Value) (f : Flg) (h : Lst shTerm w xs v) (hl : xs.length ≤ 1048576) (hs : xs.Pairwise ltE) :
    Calls Tryz.prog 129 #[v, .agg #[.int .i64 f.1, .int .i64 f.2.1, .int .u32 f.2.2], .func (.func 130) #[] #[]] w fun e w' => e = .returned (.tuple #[.int .i64 (posT f.2.2 xs), .bool (isT f.2.2 xs)]) ∧ Below w.heap.size w w' := by
  obtain ⟨A, cap, rfl, hc, hm, hoks, hel⟩ := lstTerm h
  clear hoks
  obtain ⟨N, hN⟩ : ∃ N : Nat, Hid (xs.length = N) := ⟨_, Lib.hid rfl⟩
  obtain ⟨P, hP⟩ : ∃ P : Nat, Hid (posT f.2.2 xs = P) := ⟨_, Lib.hid rfl⟩
  obtain ⟨R, hR⟩ : ∃ R : Bool, Hid (isT f.2.2 xs = R) := ⟨_, Lib.hid rfl⟩
  have hPN : P ≤ N := by rw [← hP.out, ← hN.out]; exact posT_le _ _
  have hlN : N ≤ 1048576 := by rw [← hN.out]; exact hl
  have hcN : N ≤ cap := by rw [← hN.out]; exact hc
  have HS := Lib.hid hs
  have H1 := Lib.hid hel
  have eg : Hid (∀ args w, (callFunc 130 args).run Tryz.prog w = .ok (.enter 130 args) w) := Lib.hid fun args w => enters_of Tryz.func130 (by kernel_rfl) rfl args w
  clear hs hel h hl hc
  rw [hN.out, hP.out, hR.out]
  go_enter Tryz.func129, Tryz.ntmps129
  go_wp2_with fail
  go_loopw [9, 10] (fun i j wr => ∃ (a b : Nat), i = .int .i64 a ∧ j = .int .i64 b ∧ a ≤ b ∧ b ≤ N ∧ a ≤ P ∧ P ≤ b ∧ wr.heap[w.heap.size]? = some (.cells #[.int .i64 f.1, .int .i64 f.2.1, .int .u32 f.2.2] 81 (0, 0)) ∧ Below w.heap.size w wr) (fun i j _ => (intOf j).toNat - (intOf i).toNat)
  case atStart => exact ⟨0, N, rfl, rfl, Nat.zero_le _, Nat.le_refl _, Nat.zero_le _, hPN, blkA, belA⟩
  case round =>
    obtain ⟨a, b, rfl, rfl, hab, hbN, haP, hPb, b1, hB⟩ := hrel
    obtain ⟨W0, rfl⟩ : ∃ x, x = wr := ⟨_, rfl⟩
    obtain ⟨c0, c1, c2⟩ := blkc3 b1
    have y1 := blklt b1
    have B1 := Lib.hid b1
    by_cases hlt : a < b
    · obtain ⟨m, hm1, hm2, hm3⟩ : ∃ m : Nat, ((a : Int) + (b : Int)) / 2 = (m : Int) ∧ a ≤ m ∧ m < b := ⟨(a + b) / 2, by omega, by omega, by omega⟩
      obtain ⟨bl, off, rfl, hel⟩ := H1.out (by rw [hN.out]; omega)
      obtain ⟨d, hd, hok, d0, d1, d2, d3, d4⟩ := hel m (by rw [hN.out]; omega)
      have HD := Lib.hid hd
      have zb := World.block_lt_of_cell? _ _ d0
      simp only at zb
      clear hel hd hok b1
      replace d0 := bkeep hB d0
      replace d1 := bkeep hB d1
      replace d2 := bkeep hB d2
      replace d3 := bkeep hB d3
      replace d4 := bkeep hB d4
      have HM := Lib.hid hm1
      clear hm1
      have hmN : (m : Int) < (N : Int) := by omega
      have hmn : m < N := by omega
      have hzB := hB.size
      go_wp2_with fail
      rw [HM.out]
      have HKP : Hid (∀ V V' : World, Below V.heap.size V V' → (fun w' => w'.cell? ⟨bl, off + m * 5, none⟩ = some (.int .i64 d.1.1) ∧ w'.cell? ⟨bl, off + m * 5 + 1, none⟩ = some (.int .i64 d.1.2.1) ∧ w'.cell? ⟨bl, off + m * 5 + 2, none⟩ = some (.int .u32 d.1.2.2) ∧ w'.cell? ⟨bl, off + m * 5 + 3, none⟩ = some (.int .i64 d.2.1) ∧ w'.cell? ⟨bl, off + m * 5 + 4, none⟩ = some (.int .i64 d.2.2) ∧ w'.cell? ⟨w.heap.size, 0, none⟩ = some (.int .i64 f.1) ∧ w'.cell? ⟨w.heap.size, 1, none⟩ = some (.int .i64 f.2.1) ∧ w'.cell? ⟨w.heap.size, 2, none⟩ = some (.int .u32 f.2.2)) V → (fun w' => w'.cell? ⟨bl, off + m * 5, none⟩ = some (.int .i64 d.1.1) ∧ w'.cell? ⟨bl, off + m * 5 + 1, none⟩ = some (.int .i64 d.1.2.1) ∧ w'.cell? ⟨bl, off + m * 5 + 2, none⟩ = some (.int .u32 d.1.2.2) ∧ w'.cell? ⟨bl, off + m * 5 + 3, none⟩ = some (.int .i64 d.2.1) ∧ w'.cell? ⟨bl, off + m * 5 + 4, none⟩ = some (.int .i64 d.2.2) ∧ w'.cell? ⟨w.heap.size, 0, none⟩ = some (.int .i64 f.1) ∧ w'.cell? ⟨w.heap.size, 1, none⟩ = some (.int .i64 f.2.1) ∧ w'.cell? ⟨w.heap.size, 2, none⟩ = some (.int .u32 f.2.2)) V') := Lib.hid fun V V' hb h => ⟨bkeep hb h.1, bkeep hb h.2.1, bkeep hb h.2.2.1, bkeep hb h.2.2.2.1, bkeep hb h.2.2.2.2.1, bkeep hb h.2.2.2.2.2.1, bkeep hb h.2.2.2.2.2.2.1, bkeep hb h.2.2.2.2.2.2.2⟩
      (refine wp_region_held_drew (S := (fun w' => w'.cell? ⟨bl, off + m * 5, none⟩ = some (.int .i64 d.1.1) ∧ w'.cell? ⟨bl, off + m * 5 + 1, none⟩ = some (.int .i64 d.1.2.1) ∧ w'.cell? ⟨bl, off + m * 5 + 2, none⟩ = some (.int .u32 d.1.2.2) ∧ w'.cell? ⟨bl, off + m * 5 + 3, none⟩ = some (.int .i64 d.2.1) ∧ w'.cell? ⟨bl, off + m * 5 + 4, none⟩ = some (.int .i64 d.2.2) ∧ w'.cell? ⟨w.heap.size, 0, none⟩ = some (.int .i64 f.1) ∧ w'.cell? ⟨w.heap.size, 1, none⟩ = some (.int .i64 f.2.1) ∧ w'.cell? ⟨w.heap.size, 2, none⟩ = some (.int .u32 f.2.2))) (by kernel_rfl) ?_ (fun hHeld => ?_); (focus (first | exact hS | (simp [*, go_sem]; done) | fail)); refine rt 0 (some 24) (v := ?_) rfl rfl ?_ ?_; rotate_left; (focus (intro w' hSw; (try dsimp only at hSw); go_simp; (try with_reducible rfl))); (try simp only [Act.put, nA, nB, nC]); refine rt 1 (some 25) (v := ?_) rfl rfl ?_ ?_; rotate_left; (focus (intro w' hSw; (try dsimp only at hSw); go_simp; (try with_reducible rfl))); (try simp only [Act.put, nA, nB, nC]); refine rt 2 (some 26) (v := ?_) rfl rfl ?_ ?_; rotate_left; (focus (intro w' hSw; (try dsimp only at hSw); go_simp; (try with_reducible rfl))); (try simp only [Act.put, nA, nB, nC]); refine rt 3 (some 27) (v := ?_) rfl rfl ?_ ?_; rotate_left; (focus (intro w' hSw; (try dsimp only at hSw); go_simp; (try with_reducible rfl))); (try simp only [Act.put, nA, nB, nC]); refine rt 4 (some 28) (v := ?_) rfl rfl ?_ ?_; rotate_left; (focus (intro w' hSw; (try dsimp only at hSw); go_simp; (try with_reducible rfl))); (try simp only [Act.put, nA, nB, nC]); refine rt 5 (some 29) (v := ?_) rfl rfl ?_ ?_; rotate_left; (focus (intro w' hSw; (try dsimp only at hSw); go_simp; (try with_reducible rfl))); (try simp only [Act.put, nA, nB, nC]); refine wpAnyH_ready (rs := [6]) (by kernel_rfl) (by simp) ?_; refine AllReadyH.cons rfl (fun K hK => ?_) AllReadyH.nil; go_simp; (refine Calls.mono (addCmp_any d f _) ?_; rintro e0 w2 ⟨rfl, hb⟩; have hS := HKP.out _ _ hb hHeld; have HB2 := Lib.hid (show Below W0.heap.size W0 w2 from Below.trans belA (hb.mono (by first | omega | (simp <;> omega)))); clear hb); go_wp2_with fail; refine hK.out _ _ ?_ (fun hHeld => ?_); (focus (first | exact hS | (simp [*, go_sem]; done) | fail)); clear hK K; (try simp only [Act.put, nA, nB, nC]); refine rt 7 (some 31) (v := ?_) rfl rfl ?_ ?_; rotate_left; (focus (intro w' hSw; (try dsimp only at hSw); go_simp; (try with_reducible rfl))); (try simp only [Act.put, nA, nB, nC]); refine wpAnyH_done (by kernel_rfl) ?_ _)
      clear hHeld
      have B2 := Lib.hid (bblk HB2.out y1 B1.out)
      have HBB := Lib.hid (hB.trans (HB2.out.mono hzB))
      clear hB
      by_cases hde : d.1.2.2 < f.2.2
      · have hmP : m < P := by
          rcases Nat.lt_or_ge m P with h | h
          · exact h
          · exact absurd hde (posT_ge HS.out HD.out (by rw [hP.out]; exact h))
        have hc : cmpI d.1.2.2 f.2.2 = -1 := by unfold cmpI; rw [if_pos hde]
        rw [hc]
        clear hc
        go_wp2_with fail
        go_roundw
        case rel => exact ⟨m + 1, b, by go_num, rfl, by omega, hbN, by omega, hPb, B2.out, HBB.out⟩
        case measure => simp [intOf]; omega
      · have hmP : P ≤ m := by
          rcases Nat.lt_or_ge m P with h | h
          · exact absurd (posT_lt (by rw [hP.out]; exact h) HD.out) hde
          · exact h
        have hc : ¬ cmpI d.1.2.2 f.2.2 < 0 := by unfold cmpI; rw [if_neg hde]; split <;> decide
        obtain ⟨C, hC⟩ : ∃ C, cmpI d.1.2.2 f.2.2 = C := ⟨_, rfl⟩
        rw [hC] at hc ⊢
        clear hC
        go_wp2_with fail
        go_roundw
        case rel => exact ⟨a, m, rfl, rfl, by omega, by omega, haP, hmP, B2.out, HBB.out⟩
        case measure => simp [intOf]; omega
    · obtain rfl : P = a := by omega
      obtain rfl : b = P := by omega
      rcases Nat.lt_or_ge b N with hbn | hbn
      · obtain ⟨bl, off, rfl, hel⟩ := H1.out (by rw [hN.out]; omega)
        obtain ⟨d, hd, hok, d0, d1, d2, d3, d4⟩ := hel b (by rw [hN.out]; omega)
        have HD := Lib.hid hd
        have zb := World.block_lt_of_cell? _ _ d0
        simp only at zb
        clear hel hd hok b1
        replace d0 := bkeep hB d0
        replace d1 := bkeep hB d1
        replace d2 := bkeep hB d2
        replace d3 := bkeep hB d3
        replace d4 := bkeep hB d4
        have hb8 : (b : Int) < (N : Int) := by omega
        have hRR : Hid (R = (cmpI d.1.2.2 f.2.2 == 0)) := Lib.hid (by
          rw [← hR.out, isT_some (by rw [hP.out]; exact HD.out)]
          unfold cmpI
          by_cases h1 : d.1.2.2 < f.2.2
          · rw [if_pos h1]; simp; omega
          · rw [if_neg h1]
            by_cases h2 : f.2.2 < d.1.2.2
            · rw [if_pos h2]; simp; omega
            · rw [if_neg h2]; simp; omega)
        have HKP : Hid (∀ V V' : World, Below V.heap.size V V' → (fun w' => w'.cell? ⟨bl, off + b * 5, none⟩ = some (.int .i64 d.1.1) ∧ w'.cell? ⟨bl, off + b * 5 + 1, none⟩ = some (.int .i64 d.1.2.1) ∧ w'.cell? ⟨bl, off + b * 5 + 2, none⟩ = some (.int .u32 d.1.2.2) ∧ w'.cell? ⟨bl, off + b * 5 + 3, none⟩ = some (.int .i64 d.2.1) ∧ w'.cell? ⟨bl, off + b * 5 + 4, none⟩ = some (.int .i64 d.2.2) ∧ w'.cell? ⟨w.heap.size, 0, none⟩ = some (.int .i64 f.1) ∧ w'.cell? ⟨w.heap.size, 1, none⟩ = some (.int .i64 f.2.1) ∧ w'.cell? ⟨w.heap.size, 2, none⟩ = some (.int .u32 f.2.2)) V → (fun w' => w'.cell? ⟨bl, off + b * 5, none⟩ = some (.int .i64 d.1.1) ∧ w'.cell? ⟨bl, off + b * 5 + 1, none⟩ = some (.int .i64 d.1.2.1) ∧ w'.cell? ⟨bl, off + b * 5 + 2, none⟩ = some (.int .u32 d.1.2.2) ∧ w'.cell? ⟨bl, off + b * 5 + 3, none⟩ = some (.int .i64 d.2.1) ∧ w'.cell? ⟨bl, off + b * 5 + 4, none⟩ = some (.int .i64 d.2.2) ∧ w'.cell? ⟨w.heap.size, 0, none⟩ = some (.int .i64 f.1) ∧ w'.cell? ⟨w.heap.size, 1, none⟩ = some (.int .i64 f.2.1) ∧ w'.cell? ⟨w.heap.size, 2, none⟩ = some (.int .u32 f.2.2)) V') := Lib.hid fun V V' hb h => ⟨bkeep hb h.1, bkeep hb h.2.1, bkeep hb h.2.2.1, bkeep hb h.2.2.2.1, bkeep hb h.2.2.2.2.1, bkeep hb h.2.2.2.2.2.1, bkeep hb h.2.2.2.2.2.2.1, bkeep hb h.2.2.2.2.2.2.2⟩
        go_wp2_with fail
        (refine wp_region_held_drew (S := (fun w' => w'.cell? ⟨bl, off + b * 5, none⟩ = some (.int .i64 d.1.1) ∧ w'.cell? ⟨bl, off + b * 5 + 1, none⟩ = some (.int .i64 d.1.2.1) ∧ w'.cell? ⟨bl, off + b * 5 + 2, none⟩ = some (.int .u32 d.1.2.2) ∧ w'.cell? ⟨bl, off + b * 5 + 3, none⟩ = some (.int .i64 d.2.1) ∧ w'.cell? ⟨bl, off + b * 5 + 4, none⟩ = some (.int .i64 d.2.2) ∧ w'.cell? ⟨w.heap.size, 0, none⟩ = some (.int .i64 f.1) ∧ w'.cell? ⟨w.heap.size, 1, none⟩ = some (.int .i64 f.2.1) ∧ w'.cell? ⟨w.heap.size, 2, none⟩ = some (.int .u32 f.2.2))) (by kernel_rfl) ?_ (fun hHeld => ?_); (focus (first | exact hS | (simp [*, go_sem]; done) | fail)); refine rt 0 (some 35) (v := ?_) rfl rfl ?_ ?_; rotate_left; (focus (intro w' hSw; (try dsimp only at hSw); go_simp; (try with_reducible rfl))); (try simp only [Act.put, nA, nB, nC]); refine rt 1 (some 36) (v := ?_) rfl rfl ?_ ?_; rotate_left; (focus (intro w' hSw; (try dsimp only at hSw); go_simp; (try with_reducible rfl))); (try simp only [Act.put, nA, nB, nC]); refine rt 2 (some 37) (v := ?_) rfl rfl ?_ ?_; rotate_left; (focus (intro w' hSw; (try dsimp only at hSw); go_simp; (try with_reducible rfl))); (try simp only [Act.put, nA, nB, nC]); refine rt 3 (some 38) (v := ?_) rfl rfl ?_ ?_; rotate_left; (focus (intro w' hSw; (try dsimp only at hSw); go_simp; (try with_reducible rfl))); (try simp only [Act.put, nA, nB, nC]); refine rt 4 (some 39) (v := ?_) rfl rfl ?_ ?_; rotate_left; (focus (intro w' hSw; (try dsimp only at hSw); go_simp; (try with_reducible rfl))); (try simp only [Act.put, nA, nB, nC]); refine rt 5 (some 40) (v := ?_) rfl rfl ?_ ?_; rotate_left; (focus (intro w' hSw; (try dsimp only at hSw); go_simp; (try with_reducible rfl))); (try simp only [Act.put, nA, nB, nC]); refine rt 6 (some 41) (v := ?_) rfl rfl ?_ ?_; rotate_left; (focus (intro w' hSw; (try dsimp only at hSw); go_simp; (try with_reducible rfl))); (try simp only [Act.put, nA, nB, nC]); refine rt 7 (some 42) (v := ?_) rfl rfl ?_ ?_; rotate_left; (focus (intro w' hSw; (try dsimp only at hSw); go_simp; (try with_reducible rfl))); (try simp only [Act.put, nA, nB, nC]); refine rt 8 (some 43) (v := ?_) rfl rfl ?_ ?_; rotate_left; (focus (intro w' hSw; (try dsimp only at hSw); go_simp; (try with_reducible rfl))); (try simp only [Act.put, nA, nB, nC]); refine rt 9 (some 44) (v := ?_) rfl rfl ?_ ?_; rotate_left; (focus (intro w' hSw; (try dsimp only at hSw); go_simp; (try with_reducible rfl))); (try simp only [Act.put, nA, nB, nC]); refine rt 10 (some 45) (v := ?_) rfl rfl ?_ ?_; rotate_left; (focus (intro w' hSw; (try dsimp only at hSw); go_simp; (try with_reducible rfl))); (try simp only [Act.put, nA, nB, nC]); refine wpAnyH_ready (rs := [11]) (by kernel_rfl) (by simp) ?_; refine AllReadyH.cons rfl (fun K hK => ?_) AllReadyH.nil; go_simp; (refine Calls.mono (addCmp_any d f _) ?_; rintro e0 w2 ⟨rfl, hb⟩; have hS := HKP.out _ _ hb hHeld; have HB2 := Lib.hid (show Below W0.heap.size W0 w2 from Below.trans belA (hb.mono (by first | omega | (simp <;> omega)))); clear hb); go_wp2_with fail; refine hK.out _ _ ?_ (fun hHeld => ?_); (focus (first | exact hS | (simp [*, go_sem]; done) | fail)); clear hK K; (try simp only [Act.put, nA, nB, nC]); refine rt 12 (some 47) (v := ?_) rfl rfl ?_ ?_; rotate_left; (focus (intro w' hSw; (try dsimp only at hSw); go_simp; (try with_reducible rfl))); (try simp only [Act.put, nA, nB, nC]); refine rt 13 (some 48) (v := ?_) rfl rfl ?_ ?_; rotate_left; (focus (intro w' hSw; (try dsimp only at hSw); go_simp; (try with_reducible rfl))); (try simp only [Act.put, nA, nB, nC]); refine rt 14 (some 6) (v := ?_) rfl rfl ?_ ?_; rotate_left; (focus (intro w' hSw; (try dsimp only at hSw); go_simp; (try with_reducible rfl))); (try simp only [Act.put, nA, nB, nC]); refine rt 15 (some 7) (v := ?_) rfl rfl ?_ ?_; rotate_left; (focus (intro w' hSw; (try dsimp only at hSw); go_simp; (try with_reducible rfl))); (try simp only [Act.put, nA, nB, nC]); refine wpAnyH_done (by kernel_rfl) ?_ _)
        clear hHeld
        go_wp2_with fail
        refine bodyPost_ret (v := .tuple #[.int .i64 b, .bool R]) (by rw [hRR.out]; simp [results, Tryz.results129, go_sem]) rfl ⟨rfl, by first | exact hB.trans (HB2.out.mono hB.size) | exact bdrew1 (hB.trans (HB2.out.mono hB.size))⟩
      · have hRR : Hid (R = false) := Lib.hid (by rw [← hR.out, isT_none (by rw [hP.out]; exact List.getElem?_eq_none (by rw [hN.out]; omega))])
        have hb8 : ¬ (b : Int) < (N : Int) := by omega
        have hb7 : ¬ b < N := by omega
        go_wp2_with fail
        (refine wp_region_held_drew (S := (fun w' => True)) (by kernel_rfl) ?_ (fun hHeld => ?_); (focus (trivial)); refine rt 0 (some 35) (v := ?_) rfl rfl ?_ ?_; rotate_left; (focus (intro w' hSw; (try dsimp only at hSw); go_simp; (try with_reducible rfl))); (try simp only [Act.put, nA, nB, nC]); refine rt 1 (some 36) (v := ?_) rfl rfl ?_ ?_; rotate_left; (focus (intro w' hSw; (try dsimp only at hSw); go_simp; (try with_reducible rfl))); (try simp only [Act.put, nA, nB, nC]); refine rt 2 (some 37) (v := ?_) rfl rfl ?_ ?_; rotate_left; (focus (intro w' hSw; (try dsimp only at hSw); go_simp; (try with_reducible rfl))); (try simp only [Act.put, nA, nB, nC]); refine rt 3 (some 38) (v := ?_) rfl rfl ?_ ?_; rotate_left; (focus (intro w' hSw; (try dsimp only at hSw); go_simp; (try with_reducible rfl))); (try simp only [Act.put, nA, nB, nC]); refine rt 4 (some 39) (v := ?_) rfl rfl ?_ ?_; rotate_left; (focus (intro w' hSw; (try dsimp only at hSw); go_simp; (try with_reducible rfl))); (try simp only [Act.put, nA, nB, nC]); refine rg_take 5 (some 40) (v := undef) rfl (by kernel_rfl) (by kernel_rfl) (by kernel_rfl) (by kernel_rfl) (fun _ _ _ h => h) (Or.inr ⟨by kernel_rfl, rfl⟩) (by assumption) ?_; (try simp only [Act.put, nA, nB, nC]); refine rg_take 6 (some 41) (v := undef) rfl (by kernel_rfl) (by kernel_rfl) (by kernel_rfl) (by kernel_rfl) (fun _ _ _ h => h) (Or.inr ⟨by kernel_rfl, rfl⟩) (by assumption) ?_; (try simp only [Act.put, nA, nB, nC]); refine rg_take 7 (some 42) (v := undef) rfl (by kernel_rfl) (by kernel_rfl) (by kernel_rfl) (by kernel_rfl) (fun _ _ _ h => h) (Or.inr ⟨by kernel_rfl, rfl⟩) (by assumption) ?_; (try simp only [Act.put, nA, nB, nC]); refine rg_take 8 (some 43) (v := undef) rfl (by kernel_rfl) (by kernel_rfl) (by kernel_rfl) (by kernel_rfl) (fun _ _ _ h => h) (Or.inr ⟨by kernel_rfl, rfl⟩) (by assumption) ?_; (try simp only [Act.put, nA, nB, nC]); refine rg_take 9 (some 44) (v := undef) rfl (by kernel_rfl) (by kernel_rfl) (by kernel_rfl) (by kernel_rfl) (fun _ _ _ h => h) (Or.inr ⟨by kernel_rfl, rfl⟩) (by assumption) ?_; (try simp only [Act.put, nA, nB, nC]); refine rg_take 10 (some 45) (v := undef) rfl (by kernel_rfl) (by kernel_rfl) (by kernel_rfl) (by kernel_rfl) (fun _ _ _ h => h) (Or.inr ⟨by kernel_rfl, rfl⟩) (by assumption) ?_; (try simp only [Act.put, nA, nB, nC]); refine rg_take 11 (some 46) (v := undef) rfl (by kernel_rfl) (by kernel_rfl) (by kernel_rfl) (by kernel_rfl) (fun _ _ _ h => h) (Or.inr ⟨by kernel_rfl, rfl⟩) (by assumption) ?_; (try simp only [Act.put, nA, nB, nC]); refine rg_take 12 (some 47) (v := undef) rfl (by kernel_rfl) (by kernel_rfl) (by kernel_rfl) (by kernel_rfl) (fun _ _ _ h => h) (Or.inr ⟨by kernel_rfl, rfl⟩) (by assumption) ?_; (try simp only [Act.put, nA, nB, nC]); refine rt 13 (some 48) (v := ?_) rfl rfl ?_ ?_; rotate_left; (focus (intro w' hSw; (try dsimp only at hSw); go_simp; (try with_reducible rfl))); (try simp only [Act.put, nA, nB, nC]); refine rt 14 (some 6) (v := ?_) rfl rfl ?_ ?_; rotate_left; (focus (intro w' hSw; (try dsimp only at hSw); go_simp; (try with_reducible rfl))); (try simp only [Act.put, nA, nB, nC]); refine rt 15 (some 7) (v := ?_) rfl rfl ?_ ?_; rotate_left; (focus (intro w' hSw; (try dsimp only at hSw); go_simp; (try with_reducible rfl))); (try simp only [Act.put, nA, nB, nC]); refine wpAnyH_done (by kernel_rfl) ?_ _)
        clear hHeld
        go_wp2_with fail
        refine bodyPost_ret (v := .tuple #[.int .i64 b, .bool R]) (by rw [hRR.out]; simp [results, Tryz.results129, go_sem]) rfl ⟨rfl, by first | exact hB | exact bdrew1 hB⟩
end Go.Proofs.YtpcjinbbgnmchaaGreat

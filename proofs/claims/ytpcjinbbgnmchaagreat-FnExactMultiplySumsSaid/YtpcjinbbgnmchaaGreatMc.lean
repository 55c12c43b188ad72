/- The product of two sums: spec.l05Product. -/
import Derived.Test.YtpcjinbbgnmchaaGreatMb
import Derived.Test.YtpcjinbbgnmchaaGreatBw
import Derived.Test.YtpcjinbbgnmchaaGreatSb
import Derived.Test.YtpcjinbbgnmchaaGreatVt
import Derived.Test.YtpcjinbbgnmchaaGreatPv
import Derived.Test.YtpcjinbbgnmchaaGreatSli
import Derived.Test.YtpcjinbbgnmchaaGreatJg
namespace Go.Proofs.YtpcjinbbgnmchaaGreat
open Go.ChangeShapes Go.WideShapes Go.RowKit
set_option linter.unusedVariables false
set_option linter.unusedSimpArgs false
attribute [local irreducible] Calls
set_option maxHeartbeats 8000000 in
set_option maxRecDepth 100000 in
theorem l05Product_any (w : World) (ba bb : Nat) (k m : Nat) (te s s' : Int) (T U : List Trm) (v u : Value) (hba : w.heap[ba]? = some (.cells #[.int .i64 k, .int .u32 te, .int .i64 s, v] 34 (0, 0))) (hbb : w.heap[bb]? = some (.cells #[.int .i64 k, .int .u32 te, .int .i64 s', u] 34 (0, 0))) (hT : Lst shTerm w T v) (hU : Lst shTerm w U u) (he : 0 ≤ te ∧ te ≤ 4294967295) (h1 : sumOk k te s T = true) (h2 : sumOk k te s' U = true) (hm : s + s' - k = m) (hm5 : m ≤ 5) (hk3 : k ≤ 3) (hks : (k : Int) ≤ s) (hks' : (k : Int) ≤ s') (hs5 : s ≤ 5) (hs5' : s' ≤ 5) :
    Calls Tryz.prog 40 #[.pointer (some ⟨ba, 0, none⟩), .pointer (some ⟨bb, 0, none⟩)] w (SumRet w.heap.size w (ovC k te m (mlD s s' T U) (mlZ s s' T U)) (tdT (ovC k te m (mlD s s' T U) (mlZ s s' T U)) (k, te)) (tdS (ovC k te m (mlD s s' T U) (mlZ s s' T U)) m) (tdL (ovC k te m (mlD s s' T U) (mlZ s s' T U)) (nzT (ovX (flagsF k te m []) (mlD s s' T U))))) := by
  have HT := Lib.hid hT
  have HU := Lib.hid hU
  have hkm : k ≤ m := by omega
  obtain ⟨A, cap, rfl, _, _, hoks, hel⟩ := lstTerm hT
  obtain ⟨A', cap', rfl, _, _, hoks', hel'⟩ := lstTerm hU
  have HOKS : Hid (∀ d ∈ T, okTerm d) := Lib.hid hoks
  have HOKS' : Hid (∀ d ∈ U, okTerm d) := Lib.hid hoks'
  have HELT := Lib.hid hel
  have HELU := Lib.hid hel'
  obtain ⟨NT, hNT⟩ : ∃ N, Hid (T.length = N) := ⟨_, Lib.hid rfl⟩
  obtain ⟨N', hNU⟩ : ∃ N, Hid (U.length = N) := ⟨_, Lib.hid rfl⟩
  have hl : NT ≤ 64 := by rw [← hNT.out]; exact (sumOk_iff.1 h1).2.2.1
  have hl' : N' ≤ 64 := by rw [← hNU.out]; exact (sumOk_iff.1 h2).2.2.1
  rw [hNT.out] at hba HELT
  rw [hNU.out] at hbb HELU
  have hgr : grOk k te = true := (sumOk_iff.1 h1).1
  have hsp : spOk k m = true := by
    simp [spOk, inB]
    omega
  obtain ⟨hac, hal⟩ := af_sum hgr hsp
  have htr := Lib.hid (ml_tr (te := te) h1 h2 rfl hm hm5 hk3 hks hks')
  have htm := Lib.hid (fun h hh => ml_terms (h := h) (te := te) h1 h2 rfl hm hm5 hk3 hks hks' hh)
  have hsd := Lib.hid (fun h x y hh hx hy => ml_side (h := h) (x := x) (y := y) (te := te) h1 h2 rfl hm hm5 hk3 hks hks' hh hx hy)
  have hte := Lib.hid (fun (h : Flg) (hh : h ∈ flagsF k te m []) => flagsF_mem hk3 hkm hm5 hh)
  have hpw := Lib.hid (flags_pw k te m [] (mlD s s' T U))
  have hlf : Hid ((flagsF k te m []).length = (flagsL k te m []).length) := Lib.hid (List.length_map _)
  obtain ⟨a0, a1, a2, a3⟩ := blkc4 hba
  obtain ⟨b0, b1, b2, b3⟩ := blkc4 hbb
  have yba := blklt hba
  have ybb := blklt hbb
  have HAF : Hid (∀ w v, Lst shGr w [] v → Calls Tryz.prog 77 #[.agg #[.int .i64 k, .int .u32 te], .int .i64 m, v] w (FlsCode w.heap.size w (afL k te m []) (afC k te m []))) := Lib.hid fun w v h => sAllFlags_any w k te m [] v h he
  have hgt : ¬ (5 : Int) < m := by omega
  have HW : Hid (IntKind.i64.wrap (IntKind.i64.wrap (s + s') - k) = m) := Lib.hid (by
    have e1 : IntKind.i64.wrap (s + s') = s + s' := IntWalk.i64_in _ (by omega)
    have e2 : IntKind.i64.wrap (s + s' - k) = s + s' - k := IntWalk.i64_in _ (by omega)
    rw [e1, e2, hm])
  clear hT hU hoks hoks' hel hel' hba hbb h1 h2 hgr hsp
  by_cases h64 : (flagsL k te m []).length ≤ 64
  rotate_left
  · have hC : Hid ((ovC k te m (mlD s s' T U) (mlZ s s' T U)) = 3) := Lib.hid (if_neg h64)
    have HAF3 : Hid (∀ w v, Lst shGr w [] v → Calls Tryz.prog 77 #[.agg #[.int .i64 k, .int .u32 te], .int .i64 m, v] w (FlsCode w.heap.size w [] 3)) := Lib.hid fun w v h => by
      have h2 := HAF.out w v h
      rw [hac, hal, if_neg h64, if_neg h64] at h2
      exact h2
    rw [hC.out]
    clear hac hal h64 HAF
    go_enter Tryz.func40, Tryz.ntmps40
    go_wp2_with fail
    (refine wp_region_held_drew (S := (fun w' => w'.cell? ⟨ba, 0, none⟩ = some (.int .i64 k) ∧ w'.cell? ⟨ba, 2, none⟩ = some (.int .i64 s) ∧ w'.cell? ⟨bb, 2, none⟩ = some (.int .i64 s'))) (by kernel_rfl) ?_ (fun hHeld => ?_); (focus (first | exact hS | (simp [*, go_sem]; done) | fail)); refine rt 0 (some 20) (v := ?_) rfl rfl ?_ ?_; rotate_left; (focus (intro w' hSw; (try dsimp only at hSw); go_simp; (try with_reducible rfl))); (try simp only [Act.put, nA, nB, nC]); refine rt 1 (some 21) (v := ?_) rfl rfl ?_ ?_; rotate_left; (focus (intro w' hSw; (try dsimp only at hSw); go_simp; (try with_reducible rfl))); (try simp only [Act.put, nA, nB, nC]); refine rt 2 (some 22) (v := ?_) rfl rfl ?_ ?_; rotate_left; (focus (intro w' hSw; (try dsimp only at hSw); go_simp; (try with_reducible rfl))); (try simp only [Act.put, nA, nB, nC]); refine rt 3 (some 23) (v := ?_) rfl rfl ?_ ?_; rotate_left; (focus (intro w' hSw; (try dsimp only at hSw); go_simp; (try with_reducible rfl))); (try simp only [Act.put, nA, nB, nC]); refine rt 4 (some 24) (v := ?_) rfl rfl ?_ ?_; rotate_left; (focus (intro w' hSw; (try dsimp only at hSw); go_simp; (try with_reducible rfl))); (try simp only [Act.put, nA, nB, nC]); refine rt 5 (some 25) (v := ?_) rfl rfl ?_ ?_; rotate_left; (focus (intro w' hSw; (try dsimp only at hSw); go_simp; (try with_reducible rfl))); (try simp only [Act.put, nA, nB, nC]); refine rt 6 (some 26) (v := ?_) rfl rfl ?_ ?_; rotate_left; (focus (intro w' hSw; (try dsimp only at hSw); go_simp; (try with_reducible rfl))); (try simp only [Act.put, nA, nB, nC]); refine rt 7 (some 27) (v := ?_) rfl rfl ?_ ?_; rotate_left; (focus (intro w' hSw; (try dsimp only at hSw); go_simp; (try with_reducible rfl))); (try simp only [Act.put, nA, nB, nC]); refine rt 8 (some 28) (v := ?_) rfl rfl ?_ ?_; rotate_left; (focus (intro w' hSw; (try dsimp only at hSw); go_simp; (try with_reducible rfl))); (try simp only [Act.put, nA, nB, nC]); refine rt 9 (some 29) (v := ?_) rfl rfl ?_ ?_; rotate_left; (focus (intro w' hSw; (try dsimp only at hSw); go_simp; (try with_reducible rfl))); (try simp only [Act.put, nA, nB, nC]); refine rt 10 (some 30) (v := ?_) rfl rfl ?_ ?_; rotate_left; (focus (intro w' hSw; (try dsimp only at hSw); go_simp; (try with_reducible rfl))); (try simp only [Act.put, nA, nB, nC]); refine rt 11 (some 31) (v := ?_) rfl rfl ?_ ?_; rotate_left; (focus (intro w' hSw; (try dsimp only at hSw); go_simp; (try with_reducible rfl))); (try simp only [Act.put, nA, nB, nC]); refine rt 12 (some 32) (v := ?_) rfl rfl ?_ ?_; rotate_left; (focus (intro w' hSw; (try dsimp only at hSw); go_simp; (try with_reducible rfl))); (try simp only [Act.put, nA, nB, nC]); refine rt 13 (some 33) (v := ?_) rfl rfl ?_ ?_; rotate_left; (focus (intro w' hSw; (try dsimp only at hSw); go_simp; (try with_reducible rfl))); (try simp only [Act.put, nA, nB, nC]); refine rt 14 (some 34) (v := ?_) rfl rfl ?_ ?_; rotate_left; (focus (intro w' hSw; (try dsimp only at hSw); go_simp; (try with_reducible rfl))); (try simp only [Act.put, nA, nB, nC]); refine rt 15 (some 6) (v := ?_) rfl rfl ?_ ?_; rotate_left; (focus (intro w' hSw; (try dsimp only at hSw); go_simp; (try with_reducible rfl))); (try simp only [Act.put, nA, nB, nC]); refine wpAnyH_done (by kernel_rfl) ?_ _)
    clear hHeld
    rw [HW.out]
    go_wp2_with fail
    refine Calls.mono (HAF3.out _ _ (Own.nil shGr 0 _ 0 (Nat.zero_le _) _).lst) ?_
    rintro e0 w5 ⟨A5, cap5, F5, rfl, hO5, hb5⟩
    have kr : w5.heap[w.heap.size]? = some (.cells #[.int .i64 0, .int .u32 0, .int .i64 0, .slice none 0 0] 34 (0, 0)) := bblk hb5 (by simp <;> omega) (blkdrew (blkal (blknew w _) _))
    have hbb : Below w.heap.size w w5 := Below.trans belA (hb5.mono (by simp <;> omega))
    obtain ⟨⟨r0, r1, r2, r3⟩, f0, f1, f2, f3⟩ := blk4 kr
    have yr := blklt kr
    clear hO5 hb5 kr
    go_wp2_with fail
    refine bodyPost_ret (v := .tuple #[.agg #[.int .i64 0, .int .u32 0, .int .i64 0, .slice none 0 0], .int .i64 3]) (by simp [results, Tryz.results40, go_sem, *]) rfl ?_
    exact sumRet_no rfl rfl rfl belA rfl
  obtain ⟨GL, hGL⟩ : ∃ GL : List Flg, flagsF k te m [] = GL := ⟨_, rfl⟩
  have hC : Hid ((ovC k te m (mlD s s' T U) (mlZ s s' T U)) = tdC (anyF (mlZ s s' T U) GL) (ovB GL (mlD s s' T U))) := Lib.hid (by unfold ovC; rw [if_pos h64]; subst hGL; rfl)
  obtain ⟨N3, hN3⟩ : ∃ N : Nat, Hid (GL.length = N) := ⟨_, Lib.hid rfl⟩
  have hN64 : N3 ≤ 64 := by rw [← hN3.out, ← hGL, hlf.out]; exact h64
  have HAF3 : Hid (∀ w v, Lst shGr w [] v → Calls Tryz.prog 77 #[.agg #[.int .i64 k, .int .u32 te], .int .i64 m, v] w fun e w' => ∃ A cap F, e = .returned (.tuple #[.slice A N3 cap, .int .i64 0]) ∧ Own shFlag w.heap.size w' GL (.slice A N3 cap) F ∧ Below w.heap.size w w') := Lib.hid fun w v h => by
    have h2 := HAF.out w v h
    rw [hac, hal, if_pos h64, if_pos h64, hGL] at h2
    refine Calls.mono h2 ?_
    rintro e w' ⟨A, cap, F, rfl, hO, hb⟩
    have hn := hN3.out
    subst hn
    exact ⟨A, cap, F, rfl, hO, hb⟩
  rw [hC.out]
  rw [hGL] at htm hte htr hpw hsd ⊢
  rw [ovB_eq GL (mlD s s' T U)]
  clear hac hal h64 HAF hGL hlf hC
  go_enter Tryz.func40, Tryz.ntmps40
  go_wp2_with fail
  (refine wp_region_held_drew (S := (fun w' => w'.cell? ⟨ba, 0, none⟩ = some (.int .i64 k) ∧ w'.cell? ⟨ba, 2, none⟩ = some (.int .i64 s) ∧ w'.cell? ⟨bb, 2, none⟩ = some (.int .i64 s'))) (by kernel_rfl) ?_ (fun hHeld => ?_); (focus (first | exact hS | (simp [*, go_sem]; done) | fail)); refine rt 0 (some 20) (v := ?_) rfl rfl ?_ ?_; rotate_left; (focus (intro w' hSw; (try dsimp only at hSw); go_simp; (try with_reducible rfl))); (try simp only [Act.put, nA, nB, nC]); refine rt 1 (some 21) (v := ?_) rfl rfl ?_ ?_; rotate_left; (focus (intro w' hSw; (try dsimp only at hSw); go_simp; (try with_reducible rfl))); (try simp only [Act.put, nA, nB, nC]); refine rt 2 (some 22) (v := ?_) rfl rfl ?_ ?_; rotate_left; (focus (intro w' hSw; (try dsimp only at hSw); go_simp; (try with_reducible rfl))); (try simp only [Act.put, nA, nB, nC]); refine rt 3 (some 23) (v := ?_) rfl rfl ?_ ?_; rotate_left; (focus (intro w' hSw; (try dsimp only at hSw); go_simp; (try with_reducible rfl))); (try simp only [Act.put, nA, nB, nC]); refine rt 4 (some 24) (v := ?_) rfl rfl ?_ ?_; rotate_left; (focus (intro w' hSw; (try dsimp only at hSw); go_simp; (try with_reducible rfl))); (try simp only [Act.put, nA, nB, nC]); refine rt 5 (some 25) (v := ?_) rfl rfl ?_ ?_; rotate_left; (focus (intro w' hSw; (try dsimp only at hSw); go_simp; (try with_reducible rfl))); (try simp only [Act.put, nA, nB, nC]); refine rt 6 (some 26) (v := ?_) rfl rfl ?_ ?_; rotate_left; (focus (intro w' hSw; (try dsimp only at hSw); go_simp; (try with_reducible rfl))); (try simp only [Act.put, nA, nB, nC]); refine rt 7 (some 27) (v := ?_) rfl rfl ?_ ?_; rotate_left; (focus (intro w' hSw; (try dsimp only at hSw); go_simp; (try with_reducible rfl))); (try simp only [Act.put, nA, nB, nC]); refine rt 8 (some 28) (v := ?_) rfl rfl ?_ ?_; rotate_left; (focus (intro w' hSw; (try dsimp only at hSw); go_simp; (try with_reducible rfl))); (try simp only [Act.put, nA, nB, nC]); refine rt 9 (some 29) (v := ?_) rfl rfl ?_ ?_; rotate_left; (focus (intro w' hSw; (try dsimp only at hSw); go_simp; (try with_reducible rfl))); (try simp only [Act.put, nA, nB, nC]); refine rt 10 (some 30) (v := ?_) rfl rfl ?_ ?_; rotate_left; (focus (intro w' hSw; (try dsimp only at hSw); go_simp; (try with_reducible rfl))); (try simp only [Act.put, nA, nB, nC]); refine rt 11 (some 31) (v := ?_) rfl rfl ?_ ?_; rotate_left; (focus (intro w' hSw; (try dsimp only at hSw); go_simp; (try with_reducible rfl))); (try simp only [Act.put, nA, nB, nC]); refine rt 12 (some 32) (v := ?_) rfl rfl ?_ ?_; rotate_left; (focus (intro w' hSw; (try dsimp only at hSw); go_simp; (try with_reducible rfl))); (try simp only [Act.put, nA, nB, nC]); refine rt 13 (some 33) (v := ?_) rfl rfl ?_ ?_; rotate_left; (focus (intro w' hSw; (try dsimp only at hSw); go_simp; (try with_reducible rfl))); (try simp only [Act.put, nA, nB, nC]); refine rt 14 (some 34) (v := ?_) rfl rfl ?_ ?_; rotate_left; (focus (intro w' hSw; (try dsimp only at hSw); go_simp; (try with_reducible rfl))); (try simp only [Act.put, nA, nB, nC]); refine rt 15 (some 6) (v := ?_) rfl rfl ?_ ?_; rotate_left; (focus (intro w' hSw; (try dsimp only at hSw); go_simp; (try with_reducible rfl))); (try simp only [Act.put, nA, nB, nC]); refine wpAnyH_done (by kernel_rfl) ?_ _)
  clear hHeld
  rw [HW.out]
  go_wp2_with fail
  refine Calls.mono (HAF3.out _ _ (Own.nil shGr 0 _ 0 (Nat.zero_le _) _).lst) ?_
  rintro e0 w5 ⟨A5, cap5, F5, rfl, hO5, hb5⟩
  have kr : w5.heap[w.heap.size]? = some (.cells #[.int .i64 0, .int .u32 0, .int .i64 0, .slice none 0 0] 34 (0, 0)) := bblk hb5 (by simp <;> omega) (blkdrew (blkal (blknew w _) _))
  have HB5 : Hid (Below w.heap.size w w5) := Lib.hid (Below.trans belA (hb5.mono (by simp <;> omega)))
  obtain ⟨_, _, hv5, hcp5, hmx5, hoks5, hel5⟩ := lstFlag hO5.lst
  injection hv5 with g1 g2 g3
  subst g1; subst g3
  rw [hN3.out] at hel5
  have HEL := Lib.hid hel5
  have KR5 := Lib.hid kr
  have yr5 := blklt kr
  have hz5 := HB5.out.size
  replace a0 := bkeep HB5.out a0
  replace a1 := bkeep HB5.out a1
  replace a3 := bkeep HB5.out a3
  replace b3 := bkeep HB5.out b3
  clear hO5 hb5 kr hoks5 hel5 g2 a2 b0 b1 b2
  go_wp2_with fail
  refine Calls.mono (bBegin_any _ k te m) ?_
  rintro e0 w6 ⟨bo, rfl, hBl, hb⟩
  have HB6 := Lib.hid hb
  have HBL := Lib.hid hBl
  clear a0 a1 hb hBl
  go_wp2_with fail
  go_loopw [10] (fun i wr => ∃ (i1 : Nat), i1 ≤ N3 ∧ i = .int .i64 i1 ∧ wr.heap[w.heap.size]? = some (.cells #[.int .i64 0, .int .u32 0, .int .i64 0, .slice none 0 0] 34 (0, 0)) ∧ Hid (anyF (mlZ s s' T U) (GL.take i1) = false) ∧ Hid (Bld w5.heap.size wr bo k te m 0 ((ovB GL (mlD s s' T U)).take i1)) ∧ Below w5.heap.size w5 wr) (fun i _ => N3 - (intOf i).toNat)
  case atStart =>
    exact ⟨0, Nat.zero_le _, rfl, bblk HB6.out yr5 KR5.out, Lib.hid rfl, HBL, HB6.out⟩
  case round =>
    obtain ⟨i, hi, rfl, kr, hZ, hBl, hB⟩ := hrel
    obtain ⟨W0, rfl⟩ : ∃ x, x = wr := ⟨_, rfl⟩
    obtain ⟨⟨r0, r1, r2, r3⟩, f0, f1, f2, f3⟩ := blk4 kr
    have yr := blklt kr
    have KR := Lib.hid kr
    have hzB := hB.size
    have HB0 : Hid (Below w.heap.size w W0) := Lib.hid (HB5.out.trans (hB.mono HB5.out.size))
    by_cases hlt : i < N3
    · have hk8 : (i : Int) < (N3 : Int) := by omega
      obtain ⟨bl3, off3, rfl, hel⟩ := HEL.out (by omega)
      obtain ⟨h, hd, hok, u0, u1, u2⟩ := hel i hlt
      replace u0 := bkeep hB u0
      replace u1 := bkeep hB u1
      replace u2 := bkeep hB u2
      have HOK := Lib.hid hok
      have hdm : h ∈ GL := List.mem_of_getElem? hd
      have HDM := Lib.hid hdm
      have HTM := Lib.hid (htm.out h hdm)
      have HSD := Lib.hid (hsd.out h)
      have hnz := Lib.hid (anyF_succ (z := (mlZ s s' T U)) (L := GL) (k := i) (d := h) hd)
      have hnx := Lib.hid (adB_take hpw.out (ov_take (D := (mlD s s' T U)) hd))
      have c3 := bkeep hB a3
      have d3 := bkeep hB b3
      clear kr hel hd hok hdm
      go_wp2_with fail
      refine Calls.mono (sZero_any _) ?_
      rintro e0 w7 ⟨rfl, hb⟩
      obtain ⟨sq, hsq⟩ : ∃ sq, w7.heap.size = sq := ⟨_, rfl⟩
      have HB7 := Lib.hid hb
      have hz7 := hb.size
      replace u0 := bkeep hb u0
      replace u1 := bkeep hb u1
      replace u2 := bkeep hb u2
      replace c3 := bkeep hb c3
      replace d3 := bkeep hb d3
      clear hb r0 r1 r2 r3 f0 f1 f2 f3
      go_wp2_with fail
      go_loopw [12] (fun i2 wr => ∃ (a : Nat) (d : Int × Int), a ≤ NT ∧ i2 = .int .i64 a ∧ Hid (moF (mlJ s s' h) U (T.take a) = some d) ∧ Hid (inF d) ∧ wr.heap[sq]? = some (.cells #[.int .i64 d.1, .int .i64 d.2] 53 (0, 0)) ∧ Below w7.heap.size w7 wr) (fun i _ => NT - (intOf i).toNat)
      case atStart =>
        exact ⟨0, (0, 1), Nat.zero_le _, rfl, Lib.hid rfl, Lib.hid zero_in, blknew' _ _ _ hsq.symm, belA⟩
      case round =>
        obtain ⟨a, d0, ha, rfl, hI, hd0, kq, hB2⟩ := hrel
        obtain ⟨W2, rfl⟩ : ∃ x, x = wr := ⟨_, rfl⟩
        have KQ := Lib.hid kq
        have yq := blklt kq
        have hz2 := hB2.size
        obtain ⟨q0, q1⟩ := blkc2 kq
        have c32 := bkeep hB2 c3
        have d32 := bkeep hB2 d3
        clear kq
        by_cases hlt2 : a < NT
        · have hk9 : (a : Int) < (NT : Int) := by omega
          obtain ⟨bl, off, rfl, hel⟩ := HELT.out (by omega)
          obtain ⟨x, hx, hxo, x0, x1, x2, x3, x4⟩ := hel a hlt2
          have HBW2 : Hid (Below w.heap.size w W2) := Lib.hid ((HB0.out.trans (HB7.out.mono HB0.out.size)).trans (hB2.mono (by omega)))
          have hxm := List.mem_of_getElem? hx
          have HX := Lib.hid (HTM.out x hxm).1
          have HXM := Lib.hid hxm
          have HXA := Lib.hid hx
          have HTX := Lib.hid (HTM.out x hxm).2
          clear hel hx hxm hxo q0 q1
          go_wp2_with fail
          go_loopw [13] (fun i3 wr => ∃ (c : Nat) (d : Int × Int), c ≤ N' ∧ i3 = .int .i64 c ∧ Hid (moR (mlJ s s' h) x (U.take c) (some d0) = some d) ∧ Hid (inF d) ∧ wr.heap[sq]? = some (.cells #[.int .i64 d.1, .int .i64 d.2] 53 (0, 0)) ∧ Below w7.heap.size w7 wr) (fun i _ => N' - (intOf i).toNat)
          case atStart =>
            exact ⟨0, d0, Nat.zero_le _, rfl, Lib.hid rfl, hd0, KQ.out, hB2⟩
          case round =>
            obtain ⟨c, d, hc, rfl, hJ, hd, kq, hB3⟩ := hrel
            obtain ⟨V0, rfl⟩ : ∃ x, x = wr := ⟨_, rfl⟩
            have KQ := Lib.hid kq
            have yq := blklt kq
            have hz3' := hB3.size
            have HBV : Hid (Below w.heap.size w V0) := Lib.hid ((HB0.out.trans (HB7.out.mono HB0.out.size)).trans (hB3.mono (by omega)))
            have c33 := bkeep hB3 c3
            have d33 := bkeep hB3 d3
            replace x0 := bkeep HBV.out x0
            replace x1 := bkeep HBV.out x1
            replace x2 := bkeep HBV.out x2
            replace x3 := bkeep HBV.out x3
            replace x4 := bkeep HBV.out x4
            have v0 := bkeep hB3 u0
            have v1 := bkeep hB3 u1
            have v2 := bkeep hB3 u2
            clear kq
            by_cases hlt3 : c < N'
            · have hk10 : (c : Int) < (N' : Int) := by omega
              obtain ⟨bl', off', rfl, hel⟩ := HELU.out (by omega)
              obtain ⟨y, hy, hyo, y0, y1, y2, y3, y4⟩ := hel c hlt3
              replace y0 := bkeep HBV.out y0
              replace y1 := bkeep HBV.out y1
              replace y2 := bkeep HBV.out y2
              replace y3 := bkeep HBV.out y3
              replace y4 := bkeep HBV.out y4
              have hym := List.mem_of_getElem? hy
              obtain ⟨hy1, hy2⟩ := HTX.out y hym
              have HY := Lib.hid hy1
              have hrs := Lib.hid (moR_succ (J := mlJ s s' h) (x := x) (s := some d0) hy)
              have hnone : Hid (mpO (mlJ s s' h) (some d) x y = none → mlO s s' T U h = none) := Lib.hid fun hn => moF_none (k := c + 1) HXA.out (by rw [hI.out, hrs.out, hJ.out]; exact hn)
              obtain ⟨s1, s2, s3, s4, s5, s6, s7, s8, _⟩ := HSD.out x y HDM.out HXM.out hym
              have HJ0 : Hid (∀ W, Calls Tryz.prog 96 #[.agg #[.int .i64 x.1.1, .int .i64 x.1.2.1, .int .u32 x.1.2.2], .agg #[.int .i64 y.1.1, .int .i64 y.1.2.1, .int .u32 y.1.2.2], .agg #[.int .i64 h.1, .int .i64 h.2.1, .int .u32 h.2.2]] W fun r w' => r = .returned (.agg #[.int .i64 (mlJ s s' h x y).1, .int .i64 (mlJ s s' h x y).2]) ∧ Below W.heap.size W w') := Lib.hid fun W => by
                have hj := l04Joint_any W k m (s.toNat - k) (s'.toNat - k) h.2.2 x.1 y.1 hk3 hm5 s8 s2 (HOKS.out x HXM.out).1 s4 s6 s3 (HOKS'.out y hym).1 s5 s7
                rw [s1]
                exact hj
              obtain ⟨Jv, hJv⟩ : ∃ Jv, Hid (mlJ s s' h x y = Jv) := ⟨_, Lib.hid rfl⟩
              have HJ := Lib.hid HJ0.out
              have HJI : Hid (inF Jv) := Lib.hid (by rw [← hJv.out]; exact hy2)
              rw [hJv.out] at HJ
              obtain ⟨P1, hR1⟩ : ∃ R, Hid (rD (mulO x.2 y.2) = R) := ⟨_, Lib.hid rfl⟩
              obtain ⟨RC1, hRC1⟩ : ∃ R, Hid (rC (mulO x.2 y.2) = R) := ⟨_, Lib.hid rfl⟩
              have HK1 : Hid (∀ V w' : World, Below V.heap.size V w' → (fun w' => w'.cell? ⟨ba, 3, none⟩ = some (.slice (some ⟨bl, off, none⟩) NT cap) ∧ w'.cell? ⟨bb, 3, none⟩ = some (.slice (some ⟨bl', off', none⟩) N' cap') ∧ w'.cell? ⟨bl, off + a * 5 + 3, none⟩ = some (.int .i64 x.2.1) ∧ w'.cell? ⟨bl, off + a * 5 + 4, none⟩ = some (.int .i64 x.2.2) ∧ w'.cell? ⟨bl', off' + c * 5 + 3, none⟩ = some (.int .i64 y.2.1) ∧ w'.cell? ⟨bl', off' + c * 5 + 4, none⟩ = some (.int .i64 y.2.2)) V → (fun w' => w'.cell? ⟨ba, 3, none⟩ = some (.slice (some ⟨bl, off, none⟩) NT cap) ∧ w'.cell? ⟨bb, 3, none⟩ = some (.slice (some ⟨bl', off', none⟩) N' cap') ∧ w'.cell? ⟨bl, off + a * 5 + 3, none⟩ = some (.int .i64 x.2.1) ∧ w'.cell? ⟨bl, off + a * 5 + 4, none⟩ = some (.int .i64 x.2.2) ∧ w'.cell? ⟨bl', off' + c * 5 + 3, none⟩ = some (.int .i64 y.2.1) ∧ w'.cell? ⟨bl', off' + c * 5 + 4, none⟩ = some (.int .i64 y.2.2)) w') := Lib.hid fun V w' hb h => ⟨bkeep hb h.1, bkeep hb h.2.1, bkeep hb h.2.2.1, bkeep hb h.2.2.2.1, bkeep hb h.2.2.2.2.1, bkeep hb h.2.2.2.2.2⟩
              have hmpu : Hid (mpO (mlJ s s' h) (some d) x y = (mulO x.2 y.2).bind fun p => (mulO Jv p).bind fun q => addO d q) := Lib.hid (by unfold mpO; rw [hJv.out]; rfl)
              clear hel hy hyo hym hy1 hy2 s1 s2 s3 s4 s5 s6 s7 s8 HJ0
              have HXX := Lib.hid (And.intro x0 (And.intro x1 x2))
              have HYY := Lib.hid (And.intro y0 (And.intro y1 y2))
              have HVV := Lib.hid (And.intro v0 (And.intro v1 v2))
              clear x0 x1 x2 y0 y1 y2 v0 v1 v2 u0 u1 u2 c3 d3 c32 d32
              go_upto_region 18 with fail
              go_cut [14, 15] from 74 to 147 (fun s8 s9 wx => ∃ g14 : Nat, s8 = .pointer (some ⟨g14, 0, none⟩) ∧ s9 = .int .i64 RC1 ∧ wx.heap[g14]? = some (.cells #[.int .i64 P1.1, .int .i64 P1.2] 53 (0, 0)) ∧ Below V0.heap.size V0 wx ∧ V0.heap.size ≤ g14)
              case first =>
                (refine wp_region_held_drew (S := (fun w' => w'.cell? ⟨ba, 3, none⟩ = some (.slice (some ⟨bl, off, none⟩) NT cap) ∧ w'.cell? ⟨bb, 3, none⟩ = some (.slice (some ⟨bl', off', none⟩) N' cap') ∧ w'.cell? ⟨bl, off + a * 5 + 3, none⟩ = some (.int .i64 x.2.1) ∧ w'.cell? ⟨bl, off + a * 5 + 4, none⟩ = some (.int .i64 x.2.2) ∧ w'.cell? ⟨bl', off' + c * 5 + 3, none⟩ = some (.int .i64 y.2.1) ∧ w'.cell? ⟨bl', off' + c * 5 + 4, none⟩ = some (.int .i64 y.2.2))) (by kernel_rfl) ?_ (fun hHeld => ?_); (focus (first | exact hS | (simp [*, go_sem]; done) | fail)); refine rt 0 (some 84) (v := ?_) rfl rfl ?_ ?_; rotate_left; (focus (intro w' hSw; (try dsimp only at hSw); go_simp; (try with_reducible rfl))); (try simp only [Act.put, nA, nB, nC]); refine rt 1 (some 85) (v := ?_) rfl rfl ?_ ?_; rotate_left; (focus (intro w' hSw; (try dsimp only at hSw); go_simp; (try with_reducible rfl))); (try simp only [Act.put, nA, nB, nC]); refine rt 2 (some 86) (v := ?_) rfl rfl ?_ ?_; rotate_left; (focus (intro w' hSw; (try dsimp only at hSw); go_simp; (try with_reducible rfl))); (try simp only [Act.put, nA, nB, nC]); refine rt 3 (some 87) (v := ?_) rfl rfl ?_ ?_; rotate_left; (focus (intro w' hSw; (try dsimp only at hSw); go_simp; (try with_reducible rfl))); (try simp only [Act.put, nA, nB, nC]); refine rt 4 (some 88) (v := ?_) rfl rfl ?_ ?_; rotate_left; (focus (intro w' hSw; (try dsimp only at hSw); go_simp; (try with_reducible rfl))); (try simp only [Act.put, nA, nB, nC]); refine rt 5 (some 89) (v := ?_) rfl rfl ?_ ?_; rotate_left; (focus (intro w' hSw; (try dsimp only at hSw); go_simp; (try with_reducible rfl))); (try simp only [Act.put, nA, nB, nC]); refine rt 6 (some 90) (v := ?_) rfl rfl ?_ ?_; rotate_left; (focus (intro w' hSw; (try dsimp only at hSw); go_simp; (try with_reducible rfl))); (try simp only [Act.put, nA, nB, nC]); refine rt 7 (some 91) (v := ?_) rfl rfl ?_ ?_; rotate_left; (focus (intro w' hSw; (try dsimp only at hSw); go_simp; (try with_reducible rfl))); (try simp only [Act.put, nA, nB, nC]); refine rt 8 (some 92) (v := ?_) rfl rfl ?_ ?_; rotate_left; (focus (intro w' hSw; (try dsimp only at hSw); go_simp; (try with_reducible rfl))); (try simp only [Act.put, nA, nB, nC]); refine rt 9 (some 93) (v := ?_) rfl rfl ?_ ?_; rotate_left; (focus (intro w' hSw; (try dsimp only at hSw); go_simp; (try with_reducible rfl))); (try simp only [Act.put, nA, nB, nC]); refine rt 10 (some 94) (v := ?_) rfl rfl ?_ ?_; rotate_left; (focus (intro w' hSw; (try dsimp only at hSw); go_simp; (try with_reducible rfl))); (try simp only [Act.put, nA, nB, nC]); refine rt 11 (some 95) (v := ?_) rfl rfl ?_ ?_; rotate_left; (focus (intro w' hSw; (try dsimp only at hSw); go_simp; (try with_reducible rfl))); (try simp only [Act.put, nA, nB, nC]); refine rt 12 (some 96) (v := ?_) rfl rfl ?_ ?_; rotate_left; (focus (intro w' hSw; (try dsimp only at hSw); go_simp; (try with_reducible rfl))); (try simp only [Act.put, nA, nB, nC]); refine rt 13 (some 97) (v := ?_) rfl rfl ?_ ?_; rotate_left; (focus (intro w' hSw; (try dsimp only at hSw); go_simp; (try with_reducible rfl))); (try simp only [Act.put, nA, nB, nC]); refine rt 14 (some 98) (v := ?_) rfl rfl ?_ ?_; rotate_left; (focus (intro w' hSw; (try dsimp only at hSw); go_simp; (try with_reducible rfl))); (try simp only [Act.put, nA, nB, nC]); refine rt 15 (some 99) (v := ?_) rfl rfl ?_ ?_; rotate_left; (focus (intro w' hSw; (try dsimp only at hSw); go_simp; (try with_reducible rfl))); (try simp only [Act.put, nA, nB, nC]); refine wpAnyH_ready (rs := [16, 20]) (by kernel_rfl) (by simp) ?_; refine AllReadyH.cons rfl (fun K hK => ?_) (AllReadyH.cons rfl (fun K hK => ?_) AllReadyH.nil); (focus (go_simp; (go_at_call 95; refine Calls.mono (rmul_any x.2 y.2 _ HX.out HY.out) ?_; rw [hR1.out, hRC1.out]; rintro e0 w4 ⟨rfl, hb⟩; have hS := HK1.out _ _ hb hHeld; have y41 : ba < w4.heap.size := World.block_lt_of_cell? _ _ hS.1; have y42 : bb < w4.heap.size := World.block_lt_of_cell? _ _ hS.2.1; have y43 : bl < w4.heap.size := World.block_lt_of_cell? _ _ hS.2.2.1; have y44 : bl' < w4.heap.size := World.block_lt_of_cell? _ _ hS.2.2.2.2.1; have HB4 := Lib.hid (show Below V0.heap.size V0 w4 from Below.trans belA (hb.mono (by first | omega | (simp <;> omega)))); (try (have kz := bblk hb (blklt kp) kp; clear kp; have kp := kz; clear kz; obtain ⟨pz0, pz1, pf0, pf1⟩ := blk2 kp; have pzz := blklt kp)); have hz4 := HB4.out.size; clear hb); go_wp2_with fail; refine hK.out _ _ ?_ (fun hHeld => ?_); (focus (first | exact hS | (simp [*, go_sem]; done) | fail)); clear hK K; (try simp only [Act.put, nA, nB, nC]); refine rt 17 (some 83) (v := ?_) rfl rfl ?_ ?_; rotate_left; (focus (intro w' hSw; (try dsimp only at hSw); go_simp; (try with_reducible rfl))); (try simp only [Act.put, nA, nB, nC]); refine rt 18 (some 101) (v := ?_) rfl rfl ?_ ?_; rotate_left; (focus (intro w' hSw; (try dsimp only at hSw); go_simp; (try with_reducible rfl))); (try simp only [Act.put, nA, nB, nC]); refine rt 19 (some 102) (v := ?_) rfl rfl ?_ ?_; rotate_left; (focus (intro w' hSw; (try dsimp only at hSw); go_simp; (try with_reducible rfl))); (try simp only [Act.put, nA, nB, nC]); refine wpAnyH_ready (rs := [20]) (by kernel_rfl) (by simp) ?_; refine AllReadyH.cons rfl (fun K hK => ?_) AllReadyH.nil; (try go_simp); refine hK.out _ _ ?_ (fun hHeld => ?_); (focus (first | exact hS | (simp [*, go_sem]; done) | fail)); clear hK K; (try simp only [Act.put, nA, nB, nC]); refine wpAnyH_ready (rs := [21]) (by kernel_rfl) (by simp) ?_; refine AllReadyH.cons rfl (fun K hK => ?_) AllReadyH.nil; (try go_simp); refine hK.out _ _ ?_ (fun hHeld => ?_); (focus (first | exact hS | (simp [*, go_sem]; done) | fail)); clear hK K; (try simp only [Act.put, nA, nB, nC]); refine rt 22 (some 15) (v := ?_) rfl rfl ?_ ?_; rotate_left; (focus (intro w' hSw; (try dsimp only at hSw); go_simp; (try with_reducible rfl))); (try simp only [Act.put, nA, nB, nC]); refine wpAnyH_done (by kernel_rfl) ?_ _)); rotate_left 1; (focus (((try go_simp); have hS := HK1.out _ _ (bal (Below.refl V0.drew.heap.size V0.drew) (.cells #[.int .i64 0, .int .i64 0] 53)) hHeld; have kp : (V0.drew.alloc (.cells #[.int .i64 0, .int .i64 0] 53)).heap[V0.heap.size]? = _ := blknew V0.drew _; have hnb : V0.heap.size ≤ V0.heap.size := Nat.le_refl _); refine hK.out _ _ ?_ (fun hHeld => ?_); (focus (first | exact hS | (simp [*, go_sem]; done) | fail)); clear hK K; (try simp only [Act.put, nA, nB, nC]); refine wpAnyH_ready (rs := [16]) (by kernel_rfl) (by simp) ?_; refine AllReadyH.cons rfl (fun K hK => ?_) AllReadyH.nil; go_simp; (go_at_call 95; refine Calls.mono (rmul_any x.2 y.2 _ HX.out HY.out) ?_; rw [hR1.out, hRC1.out]; rintro e0 w4 ⟨rfl, hb⟩; have hS := HK1.out _ _ hb hHeld; have y41 : ba < w4.heap.size := World.block_lt_of_cell? _ _ hS.1; have y42 : bb < w4.heap.size := World.block_lt_of_cell? _ _ hS.2.1; have y43 : bl < w4.heap.size := World.block_lt_of_cell? _ _ hS.2.2.1; have y44 : bl' < w4.heap.size := World.block_lt_of_cell? _ _ hS.2.2.2.2.1; have HB4 := Lib.hid (show Below V0.heap.size V0 w4 from Below.trans belA (hb.mono (by first | omega | (simp <;> omega)))); (try (have kz := bblk hb (blklt kp) kp; clear kp; have kp := kz; clear kz; obtain ⟨pz0, pz1, pf0, pf1⟩ := blk2 kp; have pzz := blklt kp)); have hz4 := HB4.out.size; clear hb); go_wp2_with fail; refine hK.out _ _ ?_ (fun hHeld => ?_); (focus (first | exact hS | (simp [*, go_sem]; done) | fail)); clear hK K; (try simp only [Act.put, nA, nB, nC]); refine rt 17 (some 83) (v := ?_) rfl rfl ?_ ?_; rotate_left; (focus (intro w' hSw; (try dsimp only at hSw); go_simp; (try with_reducible rfl))); (try simp only [Act.put, nA, nB, nC]); refine rt 18 (some 101) (v := ?_) rfl rfl ?_ ?_; rotate_left; (focus (intro w' hSw; (try dsimp only at hSw); go_simp; (try with_reducible rfl))); (try simp only [Act.put, nA, nB, nC]); refine rt 19 (some 102) (v := ?_) rfl rfl ?_ ?_; rotate_left; (focus (intro w' hSw; (try dsimp only at hSw); go_simp; (try with_reducible rfl))); (try simp only [Act.put, nA, nB, nC]); refine wpAnyH_ready (rs := [21]) (by kernel_rfl) (by simp) ?_; refine AllReadyH.cons rfl (fun K hK => ?_) AllReadyH.nil; (try go_simp); refine hK.out _ _ ?_ (fun hHeld => ?_); (focus (first | exact hS | (simp [*, go_sem]; done) | fail)); clear hK K; (try simp only [Act.put, nA, nB, nC]); refine rt 22 (some 15) (v := ?_) rfl rfl ?_ ?_; rotate_left; (focus (intro w' hSw; (try dsimp only at hSw); go_simp; (try with_reducible rfl))); (try simp only [Act.put, nA, nB, nC]); refine wpAnyH_done (by kernel_rfl) ?_ _)); rotate_left 1)
                all_goals
                  clear hHeld
                  have hb4 := HB4.out
                  go_wp2_with fail
                  go_meet
                  exact ⟨_, rfl, rfl, blkA, belA, (by first | omega | (simp <;> omega))⟩
              case rest =>
                obtain ⟨g14, rfl, rfl, k14, hBx, hg14⟩ := hcut
                obtain ⟨V1, rfl⟩ : ∃ z, z = wc := ⟨_, rfl⟩
                have HBW : Hid (Below w.heap.size w V1) := Lib.hid (HBV.out.trans (hBx.mono HBV.out.size))
                have HB71 : Hid (Below w7.heap.size w7 V1) := Lib.hid (hB3.trans (hBx.mono hB3.size))
                have kq := bblk hBx yq KQ.out
                have KQ1 := Lib.hid kq
                have kr := bblk (hB.trans (HB7.out.mono hzB) |>.trans (HB71.out.mono (by omega))) yr5 KR5.out
                have KR1 := Lib.hid kr
                obtain ⟨⟨r0, r1, r2, r3⟩, f0, f1, f2, f3⟩ := blk4 kr
                have yr1 := blklt kr
                obtain ⟨p0, p1⟩ := blkc2 k14
                have y14 := blklt k14
                have K14 := Lib.hid k14
                have hzV1 := hBx.size
                replace c33 := bkeep hBx c33
                replace d33 := bkeep hBx d33
                obtain ⟨x0, x1, x2⟩ := HXX.out
                obtain ⟨y0, y1, y2⟩ := HYY.out
                obtain ⟨v0, v1, v2⟩ := HVV.out
                replace x0 := bkeep hBx x0
                replace x1 := bkeep hBx x1
                replace x2 := bkeep hBx x2
                replace y0 := bkeep hBx y0
                replace y1 := bkeep hBx y1
                replace y2 := bkeep hBx y2
                replace v0 := bkeep hBx v0
                replace v1 := bkeep hBx v1
                replace v2 := bkeep hBx v2
                clear kq kr k14 hBx x3 x4 y3 y4 HXX HYY HVV
                cases hm1 : mulO x.2 y.2 with
                | none =>
                  have hC0 : RC1 = 3 := by rw [← hRC1.out, hm1]; rfl
                  have hr3 : Hid (tdC (anyF (mlZ s s' T U) GL) (ovB GL (mlD s s' T U)) = 3) := Lib.hid (by rw [ov_bad htr.out HDM.out (hnone.out (by rw [hmpu.out, hm1]; rfl))]; rfl)
                  subst hC0
                  clear hm1
                  go_wp2_with fail
                  refine bodyPost_ret (v := .tuple #[.agg #[.int .i64 0, .int .u32 0, .int .i64 0, .slice none 0 0], .int .i64 3]) (by simp [results, Tryz.results40, go_sem, *]) rfl ?_
                  rw [hr3.out]
                  exact sumRet_no rfl rfl rfl (by have hb2 := HBW.out; exact belA) rfl
                | some pp =>
                  have hR0 : P1 = pp := by rw [← hR1.out, hm1]; rfl
                  subst hR0
                  have hC0 : RC1 = 0 := by rw [← hRC1.out, hm1]; rfl
                  subst hC0
                  have HPI : Hid (inF P1) := Lib.hid (mulO_in HX.out.2.2.1 HY.out.2.2.1 hm1)
                  have hmpu2 : Hid (mpO (mlJ s s' h) (some d) x y = (mulO Jv P1).bind fun q => addO d q) := Lib.hid (by rw [hmpu.out, hm1]; rfl)
                  obtain ⟨M1, hR2⟩ : ∃ R, Hid (rD (mulO Jv P1) = R) := ⟨_, Lib.hid rfl⟩
                  obtain ⟨RC2, hRC2⟩ : ∃ R, Hid (rC (mulO Jv P1) = R) := ⟨_, Lib.hid rfl⟩
                  have HK2 : Hid (∀ V w' : World, Below V.heap.size V w' → (fun w' => w'.cell? ⟨ba, 3, none⟩ = some (.slice (some ⟨bl, off, none⟩) NT cap) ∧ w'.cell? ⟨bb, 3, none⟩ = some (.slice (some ⟨bl', off', none⟩) N' cap') ∧ w'.cell? ⟨bl, off + a * 5, none⟩ = some (.int .i64 x.1.1) ∧ w'.cell? ⟨bl, off + a * 5 + 1, none⟩ = some (.int .i64 x.1.2.1) ∧ w'.cell? ⟨bl, off + a * 5 + 2, none⟩ = some (.int .u32 x.1.2.2) ∧ w'.cell? ⟨bl', off' + c * 5, none⟩ = some (.int .i64 y.1.1) ∧ w'.cell? ⟨bl', off' + c * 5 + 1, none⟩ = some (.int .i64 y.1.2.1) ∧ w'.cell? ⟨bl', off' + c * 5 + 2, none⟩ = some (.int .u32 y.1.2.2) ∧ w'.cell? ⟨bl3, off3 + i * 3, none⟩ = some (.int .i64 h.1) ∧ w'.cell? ⟨bl3, off3 + i * 3 + 1, none⟩ = some (.int .i64 h.2.1) ∧ w'.cell? ⟨bl3, off3 + i * 3 + 2, none⟩ = some (.int .u32 h.2.2) ∧ w'.cell? ⟨g14, 0, none⟩ = some (.int .i64 P1.1) ∧ w'.cell? ⟨g14, 1, none⟩ = some (.int .i64 P1.2)) V → (fun w' => w'.cell? ⟨ba, 3, none⟩ = some (.slice (some ⟨bl, off, none⟩) NT cap) ∧ w'.cell? ⟨bb, 3, none⟩ = some (.slice (some ⟨bl', off', none⟩) N' cap') ∧ w'.cell? ⟨bl, off + a * 5, none⟩ = some (.int .i64 x.1.1) ∧ w'.cell? ⟨bl, off + a * 5 + 1, none⟩ = some (.int .i64 x.1.2.1) ∧ w'.cell? ⟨bl, off + a * 5 + 2, none⟩ = some (.int .u32 x.1.2.2) ∧ w'.cell? ⟨bl', off' + c * 5, none⟩ = some (.int .i64 y.1.1) ∧ w'.cell? ⟨bl', off' + c * 5 + 1, none⟩ = some (.int .i64 y.1.2.1) ∧ w'.cell? ⟨bl', off' + c * 5 + 2, none⟩ = some (.int .u32 y.1.2.2) ∧ w'.cell? ⟨bl3, off3 + i * 3, none⟩ = some (.int .i64 h.1) ∧ w'.cell? ⟨bl3, off3 + i * 3 + 1, none⟩ = some (.int .i64 h.2.1) ∧ w'.cell? ⟨bl3, off3 + i * 3 + 2, none⟩ = some (.int .u32 h.2.2) ∧ w'.cell? ⟨g14, 0, none⟩ = some (.int .i64 P1.1) ∧ w'.cell? ⟨g14, 1, none⟩ = some (.int .i64 P1.2)) w') := Lib.hid fun V w' hb h => ⟨bkeep hb h.1, bkeep hb h.2.1, bkeep hb h.2.2.1, bkeep hb h.2.2.2.1, bkeep hb h.2.2.2.2.1, bkeep hb h.2.2.2.2.2.1, bkeep hb h.2.2.2.2.2.2.1, bkeep hb h.2.2.2.2.2.2.2.1, bkeep hb h.2.2.2.2.2.2.2.2.1, bkeep hb h.2.2.2.2.2.2.2.2.2.1, bkeep hb h.2.2.2.2.2.2.2.2.2.2.1, bkeep hb h.2.2.2.2.2.2.2.2.2.2.2.1, bkeep hb h.2.2.2.2.2.2.2.2.2.2.2.2⟩
                  clear hm1
                  have t1 : ba < V1.heap.size := World.block_lt_of_cell? _ _ c33
                  have t2 : bb < V1.heap.size := World.block_lt_of_cell? _ _ d33
                  have t3 : bl < V1.heap.size := World.block_lt_of_cell? _ _ x0
                  have t4 : bl' < V1.heap.size := World.block_lt_of_cell? _ _ y0
                  have t5 : bl3 < V1.heap.size := World.block_lt_of_cell? _ _ v0
                  go_upto_region 21 with fail
                  go_cut [16, 17] from 74 to 147 (fun s8 s9 wx => ∃ g16 : Nat, s8 = .pointer (some ⟨g16, 0, none⟩) ∧ s9 = .int .i64 RC2 ∧ wx.heap[g16]? = some (.cells #[.int .i64 M1.1, .int .i64 M1.2] 53 (0, 0)) ∧ Below V1.heap.size V1 wx ∧ V1.heap.size ≤ g16)
                  case first =>
                    (refine wp_region_held_drew (S := (fun w' => w'.cell? ⟨ba, 3, none⟩ = some (.slice (some ⟨bl, off, none⟩) NT cap) ∧ w'.cell? ⟨bb, 3, none⟩ = some (.slice (some ⟨bl', off', none⟩) N' cap') ∧ w'.cell? ⟨bl, off + a * 5, none⟩ = some (.int .i64 x.1.1) ∧ w'.cell? ⟨bl, off + a * 5 + 1, none⟩ = some (.int .i64 x.1.2.1) ∧ w'.cell? ⟨bl, off + a * 5 + 2, none⟩ = some (.int .u32 x.1.2.2) ∧ w'.cell? ⟨bl', off' + c * 5, none⟩ = some (.int .i64 y.1.1) ∧ w'.cell? ⟨bl', off' + c * 5 + 1, none⟩ = some (.int .i64 y.1.2.1) ∧ w'.cell? ⟨bl', off' + c * 5 + 2, none⟩ = some (.int .u32 y.1.2.2) ∧ w'.cell? ⟨bl3, off3 + i * 3, none⟩ = some (.int .i64 h.1) ∧ w'.cell? ⟨bl3, off3 + i * 3 + 1, none⟩ = some (.int .i64 h.2.1) ∧ w'.cell? ⟨bl3, off3 + i * 3 + 2, none⟩ = some (.int .u32 h.2.2) ∧ w'.cell? ⟨g14, 0, none⟩ = some (.int .i64 P1.1) ∧ w'.cell? ⟨g14, 1, none⟩ = some (.int .i64 P1.2))) (by kernel_rfl) ?_ (fun hHeld => ?_); (focus (first | exact hS | (simp [*, go_sem]; done) | fail)); refine rt 0 (some 108) (v := ?_) rfl rfl ?_ ?_; rotate_left; (focus (intro w' hSw; (try dsimp only at hSw); go_simp; (try with_reducible rfl))); (try simp only [Act.put, nA, nB, nC]); refine rt 1 (some 109) (v := ?_) rfl rfl ?_ ?_; rotate_left; (focus (intro w' hSw; (try dsimp only at hSw); go_simp; (try with_reducible rfl))); (try simp only [Act.put, nA, nB, nC]); refine rt 2 (some 110) (v := ?_) rfl rfl ?_ ?_; rotate_left; (focus (intro w' hSw; (try dsimp only at hSw); go_simp; (try with_reducible rfl))); (try simp only [Act.put, nA, nB, nC]); refine rt 3 (some 111) (v := ?_) rfl rfl ?_ ?_; rotate_left; (focus (intro w' hSw; (try dsimp only at hSw); go_simp; (try with_reducible rfl))); (try simp only [Act.put, nA, nB, nC]); refine rt 4 (some 112) (v := ?_) rfl rfl ?_ ?_; rotate_left; (focus (intro w' hSw; (try dsimp only at hSw); go_simp; (try with_reducible rfl))); (try simp only [Act.put, nA, nB, nC]); refine rt 5 (some 113) (v := ?_) rfl rfl ?_ ?_; rotate_left; (focus (intro w' hSw; (try dsimp only at hSw); go_simp; (try with_reducible rfl))); (try simp only [Act.put, nA, nB, nC]); refine rt 6 (some 114) (v := ?_) rfl rfl ?_ ?_; rotate_left; (focus (intro w' hSw; (try dsimp only at hSw); go_simp; (try with_reducible rfl))); (try simp only [Act.put, nA, nB, nC]); refine rt 7 (some 115) (v := ?_) rfl rfl ?_ ?_; rotate_left; (focus (intro w' hSw; (try dsimp only at hSw); go_simp; (try with_reducible rfl))); (try simp only [Act.put, nA, nB, nC]); refine rt 8 (some 116) (v := ?_) rfl rfl ?_ ?_; rotate_left; (focus (intro w' hSw; (try dsimp only at hSw); go_simp; (try with_reducible rfl))); (try simp only [Act.put, nA, nB, nC]); refine rt 9 (some 117) (v := ?_) rfl rfl ?_ ?_; rotate_left; (focus (intro w' hSw; (try dsimp only at hSw); go_simp; (try with_reducible rfl))); (try simp only [Act.put, nA, nB, nC]); refine rt 10 (some 118) (v := ?_) rfl rfl ?_ ?_; rotate_left; (focus (intro w' hSw; (try dsimp only at hSw); go_simp; (try with_reducible rfl))); (try simp only [Act.put, nA, nB, nC]); refine rt 11 (some 119) (v := ?_) rfl rfl ?_ ?_; rotate_left; (focus (intro w' hSw; (try dsimp only at hSw); go_simp; (try with_reducible rfl))); (try simp only [Act.put, nA, nB, nC]); refine rt 12 (some 120) (v := ?_) rfl rfl ?_ ?_; rotate_left; (focus (intro w' hSw; (try dsimp only at hSw); go_simp; (try with_reducible rfl))); (try simp only [Act.put, nA, nB, nC]); refine rt 13 (some 121) (v := ?_) rfl rfl ?_ ?_; rotate_left; (focus (intro w' hSw; (try dsimp only at hSw); go_simp; (try with_reducible rfl))); (try simp only [Act.put, nA, nB, nC]); refine rt 14 (some 122) (v := ?_) rfl rfl ?_ ?_; rotate_left; (focus (intro w' hSw; (try dsimp only at hSw); go_simp; (try with_reducible rfl))); (try simp only [Act.put, nA, nB, nC]); refine rt 15 (some 123) (v := ?_) rfl rfl ?_ ?_; rotate_left; (focus (intro w' hSw; (try dsimp only at hSw); go_simp; (try with_reducible rfl))); (try simp only [Act.put, nA, nB, nC]); refine rt 16 (some 124) (v := ?_) rfl rfl ?_ ?_; rotate_left; (focus (intro w' hSw; (try dsimp only at hSw); go_simp; (try with_reducible rfl))); (try simp only [Act.put, nA, nB, nC]); refine rt 17 (some 125) (v := ?_) rfl rfl ?_ ?_; rotate_left; (focus (intro w' hSw; (try dsimp only at hSw); go_simp; (try with_reducible rfl))); (try simp only [Act.put, nA, nB, nC]); refine rt 18 (some 126) (v := ?_) rfl rfl ?_ ?_; rotate_left; (focus (intro w' hSw; (try dsimp only at hSw); go_simp; (try with_reducible rfl))); (try simp only [Act.put, nA, nB, nC]); refine rt 19 (some 127) (v := ?_) rfl rfl ?_ ?_; rotate_left; (focus (intro w' hSw; (try dsimp only at hSw); go_simp; (try with_reducible rfl))); (try simp only [Act.put, nA, nB, nC]); refine rt 21 (some 129) (v := ?_) rfl rfl ?_ ?_; rotate_left; (focus (intro w' hSw; (try dsimp only at hSw); go_simp; (try with_reducible rfl))); (try simp only [Act.put, nA, nB, nC]); refine wpAnyH_ready (rs := [20, 26]) (by kernel_rfl) (by simp) ?_; refine AllReadyH.cons rfl (fun K hK => ?_) (AllReadyH.cons rfl (fun K hK => ?_) AllReadyH.nil); (focus (go_simp; (go_at_call 96; refine Calls.mono (HJ.out _) ?_; rintro e0 w3 ⟨rfl, hb⟩; have hS := HK2.out _ _ hb hHeld; have y41 : ba < w3.heap.size := World.block_lt_of_cell? _ _ hS.1; have y42 : bb < w3.heap.size := World.block_lt_of_cell? _ _ hS.2.1; have y43 : bl < w3.heap.size := World.block_lt_of_cell? _ _ hS.2.2.1; have y44 : bl' < w3.heap.size := World.block_lt_of_cell? _ _ hS.2.2.2.2.2.1; have y45 : bl3 < w3.heap.size := World.block_lt_of_cell? _ _ hS.2.2.2.2.2.2.2.2.1; have y46 : g14 < w3.heap.size := World.block_lt_of_cell? _ _ hS.2.2.2.2.2.2.2.2.2.2.2.1; have HB3 := Lib.hid (show Below V1.heap.size V1 w3 from Below.trans belA (hb.mono (by first | omega | (simp <;> omega)))); (try (have kz := bblk hb (blklt kp) kp; clear kp; have kp := kz; clear kz)); have hz3 := HB3.out.size; clear hb); go_wp2_with fail; refine hK.out _ _ ?_ (fun hHeld => ?_); (focus (first | exact hS | (simp [*, go_sem]; done) | fail)); clear hK K; (try simp only [Act.put, nA, nB, nC]); refine wpAnyH_ready (rs := [22, 26]) (by kernel_rfl) (by simp) ?_; refine AllReadyH.cons rfl (fun K hK => ?_) (AllReadyH.cons rfl (fun K hK => ?_) AllReadyH.nil); (focus (go_simp; (go_at_call 95; refine Calls.mono (rmul_any Jv P1 _ HJI.out HPI.out) ?_; rw [hR2.out, hRC2.out]; rintro e0 w4 ⟨rfl, hb⟩; have hS := HK2.out _ _ hb hHeld; have y41 : ba < w4.heap.size := World.block_lt_of_cell? _ _ hS.1; have y42 : bb < w4.heap.size := World.block_lt_of_cell? _ _ hS.2.1; have y43 : bl < w4.heap.size := World.block_lt_of_cell? _ _ hS.2.2.1; have y44 : bl' < w4.heap.size := World.block_lt_of_cell? _ _ hS.2.2.2.2.2.1; have y45 : bl3 < w4.heap.size := World.block_lt_of_cell? _ _ hS.2.2.2.2.2.2.2.2.1; have y46 : g14 < w4.heap.size := World.block_lt_of_cell? _ _ hS.2.2.2.2.2.2.2.2.2.2.2.1; have hb3 := HB3.out; have HB4 := Lib.hid (show Below V1.heap.size V1 w4 from Below.trans belA (hb.mono (by have := hb3.size; simp <;> omega))); (try (have kz := bblk hb (blklt kp) kp; clear kp; have kp := kz; clear kz; obtain ⟨pz0, pz1, pf0, pf1⟩ := blk2 kp; have pzz := blklt kp)); have hz4 := HB4.out.size; clear hb hb3); go_wp2_with fail; refine hK.out _ _ ?_ (fun hHeld => ?_); (focus (first | exact hS | (simp [*, go_sem]; done) | fail)); clear hK K; (try simp only [Act.put, nA, nB, nC]); refine rt 23 (some 107) (v := ?_) rfl rfl ?_ ?_; rotate_left; (focus (intro w' hSw; (try dsimp only at hSw); go_simp; (try with_reducible rfl))); (try simp only [Act.put, nA, nB, nC]); refine rt 24 (some 131) (v := ?_) rfl rfl ?_ ?_; rotate_left; (focus (intro w' hSw; (try dsimp only at hSw); go_simp; (try with_reducible rfl))); (try simp only [Act.put, nA, nB, nC]); refine rt 25 (some 132) (v := ?_) rfl rfl ?_ ?_; rotate_left; (focus (intro w' hSw; (try dsimp only at hSw); go_simp; (try with_reducible rfl))); (try simp only [Act.put, nA, nB, nC]); refine wpAnyH_ready (rs := [26]) (by kernel_rfl) (by simp) ?_; refine AllReadyH.cons rfl (fun K hK => ?_) AllReadyH.nil; (try go_simp); refine hK.out _ _ ?_ (fun hHeld => ?_); (focus (first | exact hS | (simp [*, go_sem]; done) | fail)); clear hK K; (try simp only [Act.put, nA, nB, nC]); refine wpAnyH_ready (rs := [27]) (by kernel_rfl) (by simp) ?_; refine AllReadyH.cons rfl (fun K hK => ?_) AllReadyH.nil; (try go_simp); refine hK.out _ _ ?_ (fun hHeld => ?_); (focus (first | exact hS | (simp [*, go_sem]; done) | fail)); clear hK K; (try simp only [Act.put, nA, nB, nC]); refine rt 28 (some 17) (v := ?_) rfl rfl ?_ ?_; rotate_left; (focus (intro w' hSw; (try dsimp only at hSw); go_simp; (try with_reducible rfl))); (try simp only [Act.put, nA, nB, nC]); refine wpAnyH_done (by kernel_rfl) ?_ _)); rotate_left 1; (focus (((try go_simp); have hS := HK2.out _ _ (bal (Below.refl w3.heap.size w3) (.cells #[.int .i64 0, .int .i64 0] 53)) hHeld; have kp : (w3.alloc (.cells #[.int .i64 0, .int .i64 0] 53)).heap[w3.heap.size]? = _ := blknew w3 _; have hnb : V1.heap.size ≤ w3.heap.size := hz3); refine hK.out _ _ ?_ (fun hHeld => ?_); (focus (first | exact hS | (simp [*, go_sem]; done) | fail)); clear hK K; (try simp only [Act.put, nA, nB, nC]); refine wpAnyH_ready (rs := [22]) (by kernel_rfl) (by simp) ?_; refine AllReadyH.cons rfl (fun K hK => ?_) AllReadyH.nil; go_simp; (go_at_call 95; refine Calls.mono (rmul_any Jv P1 _ HJI.out HPI.out) ?_; rw [hR2.out, hRC2.out]; rintro e0 w4 ⟨rfl, hb⟩; have hS := HK2.out _ _ hb hHeld; have y41 : ba < w4.heap.size := World.block_lt_of_cell? _ _ hS.1; have y42 : bb < w4.heap.size := World.block_lt_of_cell? _ _ hS.2.1; have y43 : bl < w4.heap.size := World.block_lt_of_cell? _ _ hS.2.2.1; have y44 : bl' < w4.heap.size := World.block_lt_of_cell? _ _ hS.2.2.2.2.2.1; have y45 : bl3 < w4.heap.size := World.block_lt_of_cell? _ _ hS.2.2.2.2.2.2.2.2.1; have y46 : g14 < w4.heap.size := World.block_lt_of_cell? _ _ hS.2.2.2.2.2.2.2.2.2.2.2.1; have hb3 := HB3.out; have HB4 := Lib.hid (show Below V1.heap.size V1 w4 from Below.trans belA (hb.mono (by have := hb3.size; simp <;> omega))); (try (have kz := bblk hb (blklt kp) kp; clear kp; have kp := kz; clear kz; obtain ⟨pz0, pz1, pf0, pf1⟩ := blk2 kp; have pzz := blklt kp)); have hz4 := HB4.out.size; clear hb hb3); go_wp2_with fail; refine hK.out _ _ ?_ (fun hHeld => ?_); (focus (first | exact hS | (simp [*, go_sem]; done) | fail)); clear hK K; (try simp only [Act.put, nA, nB, nC]); refine rt 23 (some 107) (v := ?_) rfl rfl ?_ ?_; rotate_left; (focus (intro w' hSw; (try dsimp only at hSw); go_simp; (try with_reducible rfl))); (try simp only [Act.put, nA, nB, nC]); refine rt 24 (some 131) (v := ?_) rfl rfl ?_ ?_; rotate_left; (focus (intro w' hSw; (try dsimp only at hSw); go_simp; (try with_reducible rfl))); (try simp only [Act.put, nA, nB, nC]); refine rt 25 (some 132) (v := ?_) rfl rfl ?_ ?_; rotate_left; (focus (intro w' hSw; (try dsimp only at hSw); go_simp; (try with_reducible rfl))); (try simp only [Act.put, nA, nB, nC]); refine wpAnyH_ready (rs := [27]) (by kernel_rfl) (by simp) ?_; refine AllReadyH.cons rfl (fun K hK => ?_) AllReadyH.nil; (try go_simp); refine hK.out _ _ ?_ (fun hHeld => ?_); (focus (first | exact hS | (simp [*, go_sem]; done) | fail)); clear hK K; (try simp only [Act.put, nA, nB, nC]); refine rt 28 (some 17) (v := ?_) rfl rfl ?_ ?_; rotate_left; (focus (intro w' hSw; (try dsimp only at hSw); go_simp; (try with_reducible rfl))); (try simp only [Act.put, nA, nB, nC]); refine wpAnyH_done (by kernel_rfl) ?_ _)); rotate_left 1)); rotate_left 2; (focus (((try go_simp); have hS := HK2.out _ _ (bal (Below.refl V1.drew.heap.size V1.drew) (.cells #[.int .i64 0, .int .i64 0] 53)) hHeld; have kp : (V1.drew.alloc (.cells #[.int .i64 0, .int .i64 0] 53)).heap[V1.heap.size]? = _ := blknew V1.drew _; have hnb : V1.heap.size ≤ V1.heap.size := Nat.le_refl _); refine hK.out _ _ ?_ (fun hHeld => ?_); (focus (first | exact hS | (simp [*, go_sem]; done) | fail)); clear hK K; (try simp only [Act.put, nA, nB, nC]); refine wpAnyH_ready (rs := [20]) (by kernel_rfl) (by simp) ?_; refine AllReadyH.cons rfl (fun K hK => ?_) AllReadyH.nil; go_simp; (go_at_call 96; refine Calls.mono (HJ.out _) ?_; rintro e0 w3 ⟨rfl, hb⟩; have hS := HK2.out _ _ hb hHeld; have y41 : ba < w3.heap.size := World.block_lt_of_cell? _ _ hS.1; have y42 : bb < w3.heap.size := World.block_lt_of_cell? _ _ hS.2.1; have y43 : bl < w3.heap.size := World.block_lt_of_cell? _ _ hS.2.2.1; have y44 : bl' < w3.heap.size := World.block_lt_of_cell? _ _ hS.2.2.2.2.2.1; have y45 : bl3 < w3.heap.size := World.block_lt_of_cell? _ _ hS.2.2.2.2.2.2.2.2.1; have y46 : g14 < w3.heap.size := World.block_lt_of_cell? _ _ hS.2.2.2.2.2.2.2.2.2.2.2.1; have HB3 := Lib.hid (show Below V1.heap.size V1 w3 from Below.trans belA (hb.mono (by first | omega | (simp <;> omega)))); (try (have kz := bblk hb (blklt kp) kp; clear kp; have kp := kz; clear kz)); have hz3 := HB3.out.size; clear hb); go_wp2_with fail; refine hK.out _ _ ?_ (fun hHeld => ?_); (focus (first | exact hS | (simp [*, go_sem]; done) | fail)); clear hK K; (try simp only [Act.put, nA, nB, nC]); refine wpAnyH_ready (rs := [22]) (by kernel_rfl) (by simp) ?_; refine AllReadyH.cons rfl (fun K hK => ?_) AllReadyH.nil; go_simp; (go_at_call 95; refine Calls.mono (rmul_any Jv P1 _ HJI.out HPI.out) ?_; rw [hR2.out, hRC2.out]; rintro e0 w4 ⟨rfl, hb⟩; have hS := HK2.out _ _ hb hHeld; have y41 : ba < w4.heap.size := World.block_lt_of_cell? _ _ hS.1; have y42 : bb < w4.heap.size := World.block_lt_of_cell? _ _ hS.2.1; have y43 : bl < w4.heap.size := World.block_lt_of_cell? _ _ hS.2.2.1; have y44 : bl' < w4.heap.size := World.block_lt_of_cell? _ _ hS.2.2.2.2.2.1; have y45 : bl3 < w4.heap.size := World.block_lt_of_cell? _ _ hS.2.2.2.2.2.2.2.2.1; have y46 : g14 < w4.heap.size := World.block_lt_of_cell? _ _ hS.2.2.2.2.2.2.2.2.2.2.2.1; have hb3 := HB3.out; have HB4 := Lib.hid (show Below V1.heap.size V1 w4 from Below.trans belA (hb.mono (by have := hb3.size; simp <;> omega))); (try (have kz := bblk hb (blklt kp) kp; clear kp; have kp := kz; clear kz; obtain ⟨pz0, pz1, pf0, pf1⟩ := blk2 kp; have pzz := blklt kp)); have hz4 := HB4.out.size; clear hb hb3); go_wp2_with fail; refine hK.out _ _ ?_ (fun hHeld => ?_); (focus (first | exact hS | (simp [*, go_sem]; done) | fail)); clear hK K; (try simp only [Act.put, nA, nB, nC]); refine rt 23 (some 107) (v := ?_) rfl rfl ?_ ?_; rotate_left; (focus (intro w' hSw; (try dsimp only at hSw); go_simp; (try with_reducible rfl))); (try simp only [Act.put, nA, nB, nC]); refine rt 24 (some 131) (v := ?_) rfl rfl ?_ ?_; rotate_left; (focus (intro w' hSw; (try dsimp only at hSw); go_simp; (try with_reducible rfl))); (try simp only [Act.put, nA, nB, nC]); refine rt 25 (some 132) (v := ?_) rfl rfl ?_ ?_; rotate_left; (focus (intro w' hSw; (try dsimp only at hSw); go_simp; (try with_reducible rfl))); (try simp only [Act.put, nA, nB, nC]); refine wpAnyH_ready (rs := [27]) (by kernel_rfl) (by simp) ?_; refine AllReadyH.cons rfl (fun K hK => ?_) AllReadyH.nil; (try go_simp); refine hK.out _ _ ?_ (fun hHeld => ?_); (focus (first | exact hS | (simp [*, go_sem]; done) | fail)); clear hK K; (try simp only [Act.put, nA, nB, nC]); refine rt 28 (some 17) (v := ?_) rfl rfl ?_ ?_; rotate_left; (focus (intro w' hSw; (try dsimp only at hSw); go_simp; (try with_reducible rfl))); (try simp only [Act.put, nA, nB, nC]); refine wpAnyH_done (by kernel_rfl) ?_ _)); rotate_left 1)
                    all_goals
                      clear hHeld
                      have hb4 := HB4.out
                      go_wp2_with fail
                      go_meet
                      exact ⟨_, rfl, rfl, blkA, belA, (by first | omega | (simp <;> omega))⟩
                  case rest =>
                    obtain ⟨g16, rfl, rfl, k16, hBx, hg16⟩ := hcut
                    obtain ⟨V2, rfl⟩ : ∃ z, z = wc := ⟨_, rfl⟩
                    replace HBW : Hid (Below w.heap.size w V2) := Lib.hid (HBW.out.trans (hBx.mono HBW.out.size))
                    have HB72 : Hid (Below w7.heap.size w7 V2) := Lib.hid (HB71.out.trans (hBx.mono HB71.out.size))
                    have kq := bblk hBx (blklt KQ1.out) KQ1.out
                    have kr := bblk hBx (blklt KR1.out) KR1.out
                    obtain ⟨q0, q1, qf0, qf1⟩ := blk2 kq
                    have yq2 := blklt kq
                    have KQ2 := Lib.hid kq
                    have KR2 := Lib.hid kr
                    obtain ⟨m0, m1⟩ := blkc2 k16
                    have y16 := blklt k16
                    have hzV2 := hBx.size
                    clear r0 r1 r2 r3 f0 f1 f2 f3
                    obtain ⟨⟨r0, r1, r2, r3⟩, f0, f1, f2, f3⟩ := blk4 kr
                    have yr2 := blklt kr
                    clear kq kr k16 hBx p0 p1 c33 d33 x0 x1 x2 y0 y1 y2 v0 v1 v2
                    cases hm2 : mulO Jv P1 with
                    | none =>
                      have hC0 : RC2 = 3 := by rw [← hRC2.out, hm2]; rfl
                      have hr3 : Hid (tdC (anyF (mlZ s s' T U) GL) (ovB GL (mlD s s' T U)) = 3) := Lib.hid (by rw [ov_bad htr.out HDM.out (hnone.out (by rw [hmpu2.out, hm2]; rfl))]; rfl)
                      subst hC0
                      clear hm2
                      go_wp2_with fail
                      refine bodyPost_ret (v := .tuple #[.agg #[.int .i64 0, .int .u32 0, .int .i64 0, .slice none 0 0], .int .i64 3]) (by simp [results, Tryz.results40, go_sem, *]) rfl ?_
                      rw [hr3.out]
                      exact sumRet_no rfl rfl rfl (by have hb2 := HBW.out; exact belA) rfl
                    | some mm =>
                      have hR0 : M1 = mm := by rw [← hR2.out, hm2]; rfl
                      subst hR0
                      have hC0 : RC2 = 0 := by rw [← hRC2.out, hm2]; rfl
                      subst hC0
                      have HMI : Hid (inF M1) := Lib.hid (mulO_in HJI.out.2.2.1 HPI.out.2.2.1 hm2)
                      have hmpu3 : Hid (mpO (mlJ s s' h) (some d) x y = addO d M1) := Lib.hid (by rw [hmpu2.out, hm2]; rfl)
                      obtain ⟨R3, hR3⟩ : ∃ R, Hid (rD (addO d M1) = R) := ⟨_, Lib.hid rfl⟩
                      obtain ⟨RC3, hRC3⟩ : ∃ R, Hid (rC (addO d M1) = R) := ⟨_, Lib.hid rfl⟩
                      clear hm2
                      go_wp2_with fail
                      refine Calls.mono (radd_any d M1 _ hd.out HMI.out) ?_
                      rw [hR3.out, hRC3.out]
                      rintro e0 V3 ⟨rfl, hb⟩
                      replace HBW : Hid (Below w.heap.size w V3) := Lib.hid (HBW.out.trans (hb.mono HBW.out.size))
                      have HB73 : Hid (Below w7.heap.size w7 V3) := Lib.hid (HB72.out.trans (hb.mono HB72.out.size))
                      have kq := bblk hb (blklt KQ2.out) KQ2.out
                      have kr := bblk hb (blklt KR2.out) KR2.out
                      have KQ3 := Lib.hid kq
                      clear q0 q1 qf0 qf1 r0 r1 r2 r3 f0 f1 f2 f3 m0 m1
                      obtain ⟨q0, q1, qf0, qf1⟩ := blk2 kq
                      obtain ⟨⟨r0, r1, r2, r3⟩, f0, f1, f2, f3⟩ := blk4 kr
                      have yq3 := blklt kq
                      have yr3 := blklt kr
                      have hzV3 := hb.size
                      clear kq kr hb
                      cases hm3 : addO d M1 with
                      | none =>
                        have hC0 : RC3 = 3 := by rw [← hRC3.out, hm3]; rfl
                        have hr3 : Hid (tdC (anyF (mlZ s s' T U) GL) (ovB GL (mlD s s' T U)) = 3) := Lib.hid (by rw [ov_bad htr.out HDM.out (hnone.out (by rw [hmpu3.out, hm3]))]; rfl)
                        subst hC0
                        clear hm3
                        go_wp2_with fail
                        refine bodyPost_ret (v := .tuple #[.agg #[.int .i64 0, .int .u32 0, .int .i64 0, .slice none 0 0], .int .i64 3]) (by simp [results, Tryz.results40, go_sem, *]) rfl ?_
                        rw [hr3.out]
                        exact sumRet_no rfl rfl rfl (by have hb2 := HBW.out; exact belA) rfl
                      | some nn =>
                        have hR0 : R3 = nn := by rw [← hR3.out, hm3]; rfl
                        subst hR0
                        have hC0 : RC3 = 0 := by rw [← hRC3.out, hm3]; rfl
                        subst hC0
                        have HNI : Hid (inF R3) := Lib.hid (addO_in hd.out.2.2.1 HMI.out.2.2.1 hm3)
                        have hst : Hid (moR (mlJ s s' h) x (U.take (c + 1)) (some d0) = some R3) := Lib.hid (by rw [hrs.out, hJ.out, hmpu3.out, hm3])
                        clear hm3
                        go_wp2_with fail
                        go_roundw
                        case rel =>
                          have hb2 := HB73.out
                          exact ⟨c + 1, R3, by omega, by go_num, hst, HNI, blkal (blkset2 KQ3.out _ _) _, (Below.setCell (Below.setCell hb2 (by show w7.heap.size ≤ sq; omega) _) (by show w7.heap.size ≤ sq; omega) _).alloc (by have := hb2.size; simp; omega) _⟩
                        case measure => simp [intOf]; omega
            · have e : c = N' := by omega
              subst e
              have hst : Hid (moF (mlJ s s' h) U (T.take (a + 1)) = some d) := Lib.hid (by
                have h2 := hJ.out
                rw [← hNU.out, List.take_length] at h2
                rw [moF_succ HXA.out, hI.out]
                exact h2)
              go_wp2_with fail
              go_roundw
              case rel => exact ⟨a + 1, d, by omega, by go_num, hst, hd, KQ.out, hB3⟩
              case measure => simp [intOf]; omega
        · have e : a = NT := by omega
          subst e
          have hO : mlO s s' T U h = some d0 := by
            have h2 := hI.out
            rw [← hNT.out, List.take_length] at h2
            exact h2
          obtain ⟨hz1, hzz⟩ := ov_good htr.out HDM.out hO
          have hRd : Hid (mlD s s' T U h = d0) := Lib.hid hzz
          have hnz2 : Hid (anyF (mlZ s s' T U) (GL.take (i + 1)) = false) := Lib.hid (by rw [hnz.out, hZ.out, hz1]; rfl)
          have hnx2 : Hid (adB (0, (ovB GL (mlD s s' T U)).take i) h d0 = (0, (ovB GL (mlD s s' T U)).take (i + 1))) := Lib.hid (by have h := hnx.out; rw [hRd.out] at h; exact h)
          have HMI : Hid (∀ x ∈ (ovB GL (mlD s s' T U)).take i, inF x.2) := Lib.hid fun x hx => by
            obtain ⟨y, hy, rfl⟩ := List.mem_map.1 (show x ∈ GL.map (fun h => (h, (mlD s s' T U) h)) from List.mem_of_mem_take hx)
            exact (htr.out y hy).1
          have HLL : Hid (((ovB GL (mlD s s' T U)).take i).length ≤ 1048576) := Lib.hid (by
            have h : ((ovB GL (mlD s s' T U)).take i).length ≤ i := by rw [List.length_take]; omega
            omega)
          have HBL7 := Lib.hid ((hBl.out.below HB7.out).below hB2)
          have v0 := bkeep hB2 u0
          have v1 := bkeep hB2 u1
          have v2 := bkeep hB2 u2
          have KR7 := Lib.hid (bblk hB2 (blklt (bblk HB7.out yr KR.out)) (bblk HB7.out yr KR.out))
          clear hO hz1 hzz
          go_wp2_with fail
          (refine last_region (S := (fun w' => w'.cell? ⟨bl3, off3 + i * 3, none⟩ = some (.int .i64 h.1) ∧ w'.cell? ⟨bl3, off3 + i * 3 + 1, none⟩ = some (.int .i64 h.2.1) ∧ w'.cell? ⟨bl3, off3 + i * 3 + 2, none⟩ = some (.int .u32 h.2.2) ∧ w'.cell? ⟨sq, 0, none⟩ = some (.int .i64 d0.1) ∧ w'.cell? ⟨sq, 1, none⟩ = some (.int .i64 d0.2))) 6 (by kernel_rfl) ?_ (fun hHeld => ?_); (focus (first | exact hS | (simp [*, go_sem]; done) | fail)); refine last_take 0 (some 148) (v := ?_) rfl (by kernel_rfl) (by kernel_rfl) (by kernel_rfl) (by kernel_rfl) (by decide) (by kernel_rfl) (fun _ _ _ h => h) (Or.inl ⟨by kernel_rfl, ?_⟩) (by assumption) ?_; rotate_left; (focus (intro w' hSw; (try dsimp only at hSw); go_simp; (try with_reducible rfl))); (try simp only [Act.put, nA, nB, nC]); refine last_take 1 (some 149) (v := ?_) rfl (by kernel_rfl) (by kernel_rfl) (by kernel_rfl) (by kernel_rfl) (by decide) (by kernel_rfl) (fun _ _ _ h => h) (Or.inl ⟨by kernel_rfl, ?_⟩) (by assumption) ?_; rotate_left; (focus (intro w' hSw; (try dsimp only at hSw); go_simp; (try with_reducible rfl))); (try simp only [Act.put, nA, nB, nC]); refine last_take 2 (some 150) (v := ?_) rfl (by kernel_rfl) (by kernel_rfl) (by kernel_rfl) (by kernel_rfl) (by decide) (by kernel_rfl) (fun _ _ _ h => h) (Or.inl ⟨by kernel_rfl, ?_⟩) (by assumption) ?_; rotate_left; (focus (intro w' hSw; (try dsimp only at hSw); go_simp; (try with_reducible rfl))); (try simp only [Act.put, nA, nB, nC]); refine last_take 3 (some 151) (v := ?_) rfl (by kernel_rfl) (by kernel_rfl) (by kernel_rfl) (by kernel_rfl) (by decide) (by kernel_rfl) (fun _ _ _ h => h) (Or.inl ⟨by kernel_rfl, ?_⟩) (by assumption) ?_; rotate_left; (focus (intro w' hSw; (try dsimp only at hSw); go_simp; (try with_reducible rfl))); (try simp only [Act.put, nA, nB, nC]); refine last_take 4 (some 152) (v := ?_) rfl (by kernel_rfl) (by kernel_rfl) (by kernel_rfl) (by kernel_rfl) (by decide) (by kernel_rfl) (fun _ _ _ h => h) (Or.inl ⟨by kernel_rfl, ?_⟩) (by assumption) ?_; rotate_left; (focus (intro w' hSw; (try dsimp only at hSw); go_simp; (try with_reducible rfl))); (try simp only [Act.put, nA, nB, nC]); refine last_take 5 (some 153) (v := ?_) rfl (by kernel_rfl) (by kernel_rfl) (by kernel_rfl) (by kernel_rfl) (by decide) (by kernel_rfl) (fun _ _ _ h => h) (Or.inl ⟨by kernel_rfl, ?_⟩) (by assumption) ?_; rotate_left; (focus (intro w' hSw; (try dsimp only at hSw); go_simp; (try with_reducible rfl))); (try simp only [Act.put, nA, nB, nC]); refine last_end (by kernel_rfl) rfl (fun K hK => ?_); go_simp; (go_at_call 80; refine Calls.mono (bAdd_any _ w5.heap.size bo k te m 0 ((ovB GL (mlD s s' T U)).take i) h d0 (HBL7.out.below (by repeat (first | with_reducible exact Below.refl _ _ | with_reducible refine bdrew1 ?_ | with_reducible refine bal ?_ _))) HOK.out hd0.out (fun _ => HMI.out) HLL.out) ?_; rw [hnx2.out]; rintro e0 w8 ⟨rfl, hBl8, hb⟩; have HBL8 := Lib.hid hBl8; have HB8 := Lib.hid (show Below w5.heap.size W2 w8 from Below.trans (Below.mono (B := W2.heap.size) (by repeat (first | with_reducible exact Below.refl _ _ | with_reducible refine bdrew1 ?_ | with_reducible refine bal ?_ _)) (by omega)) hb); clear hBl8 hb); go_wp2_with fail; refine hK.out _ _ ?_; clear hK K hHeld; (try simp only [Act.put, nA, nB, nC]); refine last_done (by kernel_rfl) ?_ _)
          go_wp2_with fail
          go_roundw
          case rel =>
            exact ⟨i + 1, by omega, by go_num, bblk HB8.out (by omega) KR7.out, hnz2, HBL8, ((hB.trans (HB7.out.mono hzB)).trans (hB2.mono (by omega))).trans HB8.out⟩
          case measure => simp [intOf]; omega
    · have e : i = N3 := by omega
      subst e
      have hMl : Hid ((ovB GL (mlD s s' T U)).length = i) := Lib.hid ((ovB_len _ _).trans hN3.out)
      have htk : Hid ((ovB GL (mlD s s' T U)).take i = ovB GL (mlD s s' T U)) := Lib.hid (List.take_of_length_le (by rw [hMl.out]; exact Nat.le_refl _))
      have hz0 : Hid (tdC (anyF (mlZ s s' T U) GL) (ovB GL (mlD s s' T U)) = enC 0 (ovB GL (mlD s s' T U))) := Lib.hid (by
        have h := hZ.out
        rw [show GL.take i = GL from List.take_of_length_le (by rw [hN3.out]; exact Nat.le_refl _)] at h
        rw [h]
        rfl)
      have HBL9 : Hid (Bld w5.heap.size W0 bo k te m 0 (ovB GL (mlD s s' T U))) := Lib.hid (by have h := hBl.out; rw [htk.out] at h; exact h)
      clear kr
      go_wp2_with fail
      refine Calls.mono (bEnd_any _ w5.heap.size bo k te m 0 (ovB GL (mlD s s' T U)) HBL9.out (by rw [hMl.out]; omega)) ?_
      rintro e0 w9 ⟨A9, cap9, F9, rfl, hO9, hb9⟩
      have kr := bblk hb9 yr KR.out
      have hbb : Below w.heap.size w w9 := HB0.out.trans (hb9.mono HB0.out.size)
      obtain ⟨C, hC⟩ : ∃ C, Hid (enC 0 (ovB GL (mlD s s' T U)) = C) := ⟨_, Lib.hid rfl⟩
      rw [hC.out] at hO9 ⊢
      obtain ⟨XL, hXL, NX, hNX⟩ : ∃ XL : List Trm, Hid (tdL C (nzT (ovB GL (mlD s s' T U))) = XL) ∧ ∃ NX : Nat, Hid (XL.length = NX) := ⟨_, Lib.hid rfl, _, Lib.hid rfl⟩
      rw [hXL.out] at hO9 ⊢
      rw [hNX.out] at hO9 ⊢
      have HO9 := Lib.hid hO9
      have hzz9 : W0.heap.size ≤ w9.heap.size := hb9.size
      obtain ⟨⟨c50, c51, c52, c53⟩, f50, f51, f52, f53⟩ := blk4 kr
      have zz9 := blklt kr
      clear hO9 hb9 kr
      go_wp2_with fail
      refine bodyPost_ret (v := .tuple #[.agg #[.int .i64 (tdT C (k, te)).1, .int .u32 (tdT C (k, te)).2, .int .i64 (tdS C m), .slice A9 NX cap9], .int .i64 C]) (by simp [results, Tryz.results40, go_sem, *]) rfl ?_
      rw [hz0.out, hC.out, hXL.out]
      refine ⟨A9, cap9, F9, ?_, ?_, ?_⟩
      · rw [hNX.out]
      · rw [hNX.out]
        refine HO9.out.move (by omega) fun q h1 _ => ?_
        have hne : q ≠ w.heap.size := by omega
        exact (Below.heap_setCell _ ⟨w.heap.size, 3, none⟩ _ q hne).trans ((Below.heap_setCell _ ⟨w.heap.size, 2, none⟩ _ q hne).trans ((Below.heap_setCell _ ⟨w.heap.size, 1, none⟩ _ q hne).trans (Below.heap_setCell _ ⟨w.heap.size, 0, none⟩ _ q hne)))
      · exact belA
end Go.Proofs.YtpcjinbbgnmchaaGreat

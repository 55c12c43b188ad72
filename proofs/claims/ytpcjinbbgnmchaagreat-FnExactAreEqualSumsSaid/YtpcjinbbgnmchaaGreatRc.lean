/- Several texts in one (Rb Rc). -/
import Derived.Test.YtpcjinbbgnmchaaGreatBw
import Derived.Test.YtpcjinbbgnmchaaGreatRa
import Derived.Test.YtpcjinbbgnmchaaGreatVc
import Derived.Test.YtpcjinbbgnmchaaGreatSb
import Derived.Test.YtpcjinbbgnmchaaGreatVt
/- A sum raised to a greater size: spec.l05Raise. -/
namespace Go.Proofs.YtpcjinbbgnmchaaGreat
open Go.ChangeShapes Go.WideShapes Go.RowKit
set_option linter.unusedVariables false
set_option linter.unusedSimpArgs false
attribute [local irreducible] Calls
theorem af_sum {te : Int} {k m : Nat} (hg : grOk k te = true) (hs : spOk k m = true) : afC k te m [] = (if (flagsL k te m []).length ≤ 64 then 0 else 3) ∧ afL k te m [] = (if (flagsL k te m []).length ≤ 64 then flagsF k te m [] else []) := by
  have h1 : afC k te m [] = (if (flagsL k te m []).length ≤ 64 then 0 else 3) := by
    unfold afC
    rw [if_pos hg, if_pos (show forbC [] = 0 from rfl), if_pos hs, Int.toNat_natCast, Int.toNat_natCast]
  refine ⟨h1, ?_⟩
  unfold afL
  rw [h1, Int.toNat_natCast, Int.toNat_natCast]
  split
  · rfl
  · rfl
set_option maxHeartbeats 4000000 in
theorem l05Raise_any (w : World) (ba : Nat) (k m : Nat) (te s : Int) (T : List Trm) (v : Value) (hba : w.heap[ba]? = some (.cells #[.int .i64 k, .int .u32 te, .int .i64 s, v] 34 (0, 0))) (hT : Lst shTerm w T v) (he : 0 ≤ te ∧ te ≤ 4294967295) (h1 : sumOk k te s T = true) (hsm : s ≤ m) (hm5 : m ≤ 5) (hkm : k ≤ m) (hk3 : k ≤ 3) :
    Calls Tryz.prog 32 #[.pointer (some ⟨ba, 0, none⟩), .int .i64 m] w (SumRet w.heap.size w (ovC k te m (rsD T) (rsZ T)) (tdT (ovC k te m (rsD T) (rsZ T)) (k, te)) (tdS (ovC k te m (rsD T) (rsZ T)) m) (tdL (ovC k te m (rsD T) (rsZ T)) (nzT (ovX (flagsF k te m []) (rsD T))))) := by
  have HT := Lib.hid hT
  obtain ⟨A, cap, rfl, _, _, hoks, _⟩ := lstTerm hT
  have HOKS : Hid (∀ d ∈ T, okTerm d) := Lib.hid hoks
  have hl : T.length ≤ 64 := (sumOk_iff.1 h1).2.2.1
  have hgr : grOk k te = true := (sumOk_iff.1 h1).1
  have hsp : spOk k m = true := by
    simp [spOk, inB]
    omega
  obtain ⟨hac, hal⟩ := af_sum hgr hsp
  have htm := Lib.hid (fun h hh => rs_terms (h := h) (te := te) h1 rfl hsm hm5 hkm hk3 hh)
  have hte := Lib.hid (fun (h : Flg) (hh : h ∈ flagsF k te m []) => flagsF_mem hk3 hkm hm5 hh)
  have htr := Lib.hid (rs_tr (te := te) h1 rfl hsm hm5 hkm hk3)
  have hpw := Lib.hid (flags_pw k te m [] (rsD T))
  have hlf : Hid ((flagsF k te m []).length = (flagsL k te m []).length) := Lib.hid (List.length_map _)
  obtain ⟨a0, a1, a2, a3⟩ := blkc4 hba
  have yba := blklt hba
  have KA := Lib.hid hba
  have HAF : Hid (∀ w v, Lst shGr w [] v → Calls Tryz.prog 77 #[.agg #[.int .i64 k, .int .u32 te], .int .i64 m, v] w (FlsCode w.heap.size w (afL k te m []) (afC k te m []))) := Lib.hid fun w v h => sAllFlags_any w k te m [] v h he
  clear hT hoks hba h1 hgr hsp
  by_cases h64 : (flagsL k te m []).length ≤ 64
  rotate_left
  · have hC : Hid (ovC k te m (rsD T) (rsZ T) = 3) := Lib.hid (if_neg h64)
    have HAF3 : Hid (∀ w v, Lst shGr w [] v → Calls Tryz.prog 77 #[.agg #[.int .i64 k, .int .u32 te], .int .i64 m, v] w (FlsCode w.heap.size w [] 3)) := Lib.hid fun w v h => by
      have h2 := HAF.out w v h
      rw [hac, hal, if_neg h64, if_neg h64] at h2
      exact h2
    rw [hC.out]
    clear hac hal h64 HAF
    go_enter Tryz.func32, Tryz.ntmps32
    go_wp2_with fail
    refine Calls.mono (HAF3.out _ _ (Own.nil shGr 0 _ 0 (Nat.zero_le _) _).lst) ?_
    rintro e0 w5 ⟨A5, cap5, F5, rfl, hO5, hb5⟩
    have kr : w5.heap[w.heap.size]? = some (.cells #[.int .i64 0, .int .u32 0, .int .i64 0, .slice none 0 0] 34 (0, 0)) := bblk hb5 (by simp <;> omega) blkA
    have hbb : Below w.heap.size w w5 := Below.trans belA (hb5.mono (by simp <;> omega))
    obtain ⟨⟨r0, r1, r2, r3⟩, f0, f1, f2, f3⟩ := blk4 kr
    have yr := blklt kr
    clear hO5 hb5 kr
    go_wp2_with fail
    refine bodyPost_ret (v := .tuple #[.agg #[.int .i64 0, .int .u32 0, .int .i64 0, .slice none 0 0], .int .i64 3]) (by simp [results, Tryz.results32, go_sem, *]) rfl ?_
    exact sumRet_no rfl rfl rfl belA rfl
  obtain ⟨GL, hGL⟩ : ∃ GL : List Flg, flagsF k te m [] = GL := ⟨_, rfl⟩
  have hC : Hid (ovC k te m (rsD T) (rsZ T) = tdC (anyF (rsZ T) GL) (ovB GL (rsD T))) := Lib.hid (by unfold ovC; rw [if_pos h64]; subst hGL; rfl)
  obtain ⟨N, hN⟩ : ∃ N : Nat, Hid (GL.length = N) := ⟨_, Lib.hid rfl⟩
  have hN64 : N ≤ 64 := by rw [← hN.out, ← hGL, hlf.out]; exact h64
  have HAF3 : Hid (∀ w v, Lst shGr w [] v → Calls Tryz.prog 77 #[.agg #[.int .i64 k, .int .u32 te], .int .i64 m, v] w fun e w' => ∃ A cap F, e = .returned (.tuple #[.slice A N cap, .int .i64 0]) ∧ Own shFlag w.heap.size w' GL (.slice A N cap) F ∧ Below w.heap.size w w') := Lib.hid fun w v h => by
    have h2 := HAF.out w v h
    rw [hac, hal, if_pos h64, if_pos h64, hGL] at h2
    refine Calls.mono h2 ?_
    rintro e w' ⟨A, cap, F, rfl, hO, hb⟩
    have hn := hN.out
    subst hn
    exact ⟨A, cap, F, rfl, hO, hb⟩
  rw [hC.out]
  rw [hGL] at htm hte htr hpw ⊢
  rw [ovB_eq GL (rsD T)]
  clear hac hal h64 HAF hGL hlf hC
  go_enter Tryz.func32, Tryz.ntmps32
  go_wp2_with fail
  refine Calls.mono (HAF3.out _ _ (Own.nil shGr 0 _ 0 (Nat.zero_le _) _).lst) ?_
  rintro e0 w5 ⟨A5, cap5, F5, rfl, hO5, hb5⟩
  have kr : w5.heap[w.heap.size]? = some (.cells #[.int .i64 0, .int .u32 0, .int .i64 0, .slice none 0 0] 34 (0, 0)) := bblk hb5 (by simp <;> omega) blkA
  have HB5 : Hid (Below w.heap.size w w5) := Lib.hid (Below.trans belA (hb5.mono (by simp <;> omega)))
  obtain ⟨_, _, hv5, hcp5, hmx5, hoks5, hel5⟩ := lstFlag hO5.lst
  injection hv5 with g1 g2 g3
  subst g1; subst g3
  rw [hN.out] at hel5
  have HEL := Lib.hid hel5
  have KR5 := Lib.hid kr
  have yr5 := blklt kr
  have yb5 : ba < w5.heap.size := by have := HB5.out.size; omega
  replace a0 := bkeep HB5.out a0
  replace a1 := bkeep HB5.out a1
  clear hO5 hb5 kr hoks5 hel5 g2 a2 a3
  go_wp2_with fail
  refine Calls.mono (bBegin_any _ k te m) ?_
  rintro e0 w6 ⟨bb, rfl, hBl, hb⟩
  have HB6 := Lib.hid hb
  have HBL := Lib.hid hBl
  clear a0 a1 hb hBl
  go_wp2_with fail
  go_loopw [9] (fun i wr => ∃ (a : Nat), a ≤ N ∧ i = .int .i64 a ∧ wr.heap[w.heap.size]? = some (.cells #[.int .i64 0, .int .u32 0, .int .i64 0, .slice none 0 0] 34 (0, 0)) ∧ Hid (anyF (rsZ T) (GL.take a) = false) ∧ Hid (Bld w5.heap.size wr bb k te m 0 ((ovB GL (rsD T)).take a)) ∧ Below w5.heap.size w5 wr) (fun i _ => N - (intOf i).toNat)
  case atStart =>
    exact ⟨0, Nat.zero_le _, rfl, bblk HB6.out yr5 KR5.out, Lib.hid rfl, HBL, HB6.out⟩
  case round =>
    obtain ⟨a, ha, rfl, kr, hZ, hBl, hB⟩ := hrel
    obtain ⟨W0, rfl⟩ : ∃ x, x = wr := ⟨_, rfl⟩
    obtain ⟨⟨r0, r1, r2, r3⟩, f0, f1, f2, f3⟩ := blk4 kr
    have yr := blklt kr
    have KR := Lib.hid kr
    have hzB := hB.size
    have HB0 : Hid (Below w.heap.size w W0) := Lib.hid (HB5.out.trans (hB.mono HB5.out.size))
    by_cases hlt : a < N
    · have hk8 : (a : Int) < (N : Int) := by omega
      obtain ⟨bl, off, rfl, hel⟩ := HEL.out (by omega)
      obtain ⟨d, hd, hok, x0, x1, x2⟩ := hel a hlt
      have zb := World.block_lt_of_cell? _ _ x0
      simp only at zb
      replace x0 := bkeep hB x0
      replace x1 := bkeep hB x1
      replace x2 := bkeep hB x2
      have HOK := Lib.hid hok
      have hdm : d ∈ GL := List.mem_of_getElem? hd
      obtain ⟨f1', f2', f3', f4'⟩ := hte.out d hdm
      obtain ⟨c1, c2⟩ := htm.out d hdm
      have HTR := Lib.hid (htr.out)
      have HDM := Lib.hid hdm
      have hnz := Lib.hid (anyF_succ (z := rsZ T) (L := GL) (k := a) (d := d) hd)
      have hnx := Lib.hid (adB_take hpw.out (ov_take (D := rsD T) hd))
      obtain ⟨R, hR⟩ : ∃ R, Hid (rD (vO (viD d) T) = R) := ⟨_, Lib.hid rfl⟩
      obtain ⟨RC, hRC⟩ : ∃ RC, Hid (rC (vO (viD d) T) = RC) := ⟨_, Lib.hid rfl⟩
      have HVAL : Hid (Calls Tryz.prog 79 #[.pointer (some ⟨ba, 0, none⟩), .agg #[.int .i64 d.1, .int .i64 d.2.1, .int .u32 d.2.2]] W0 fun r w' => r = .returned (.tuple #[.agg #[.int .i64 R.1, .int .i64 R.2], .int .i64 RC]) ∧ Below W0.heap.size W0 w') := Lib.hid (by
        rw [← hR.out, ← hRC.out]
        refine l05Value_any W0 ba k te s T _ d (viD d) (bblk HB0.out yba KA.out) (HT.out.below HB0.out) (by omega) c1 fun t ht W => ?_
        obtain ⟨a1, a2, a3⟩ := c2 t ht
        have := l04Density_any W k m d.2.2 t.1 hk3 hkm hm5 f4'.2.2 a1 (HOKS.out t ht).1 (by rw [a2, f1']) (by rw [f2'] at a3; exact a3)
        unfold viD
        rw [f1', f2']
        exact this)
      clear kr hel hd hok hdm f1' f2' f3' f4' c1 c2
      go_wp2_with fail
      refine Calls.mono HVAL.out ?_
      rintro e0 w7 ⟨rfl, hb⟩
      have HB7 := Lib.hid hb
      have kr := bblk hb yr KR.out
      have KR7 := Lib.hid kr
      have z0 := bkeep hb x0
      have z1 := bkeep hb x1
      have z2 := bkeep hb x2
      obtain ⟨⟨p0, p1, p2, p3⟩, e0, e1, e2, e3⟩ := blk4 kr
      have yr7 := blklt kr
      have hz7 := hb.size
      have zb7 : bl < w7.heap.size := by omega
      have HBL7 := Lib.hid (hBl.out.below hb)
      have HB7w := Lib.hid (HB0.out.trans (hb.mono HB0.out.size))
      clear hb kr x0 x1 x2 r0 r1 r2 r3 f0 f1 f2 f3
      cases hm : vO (viD d) T with
      | none =>
        have hC0 : RC = 3 := by rw [← hRC.out, hm]; rfl
        have hr : Hid (tdC (anyF (rsZ T) GL) (ovB GL (rsD T)) = 3) := Lib.hid (by rw [ov_bad HTR.out HDM.out hm]; rfl)
        subst hC0
        clear hm
        go_wp2_with fail
        refine bodyPost_ret (v := .tuple #[.agg #[.int .i64 0, .int .u32 0, .int .i64 0, .slice none 0 0], .int .i64 3]) (by simp [results, Tryz.results32, go_sem, *]) rfl ?_
        rw [hr.out]
        exact sumRet_no rfl rfl rfl (by have hb2 := HB7w.out; exact belA) rfl
      | some mm =>
        obtain ⟨hz1, hz2⟩ := ov_good HTR.out HDM.out hm
        have hR0 : R = mm := by rw [← hR.out, hm]; rfl
        have hC0 : RC = 0 := by rw [← hRC.out, hm]; rfl
        have hRd : Hid (rsD T d = R) := Lib.hid (by rw [hz2, hR0])
        have hmi : Hid (inF R) := Lib.hid (by rw [← hRd.out]; exact (HTR.out d HDM.out).1)
        have hnz2 : Hid (anyF (rsZ T) (GL.take (a + 1)) = false) := Lib.hid (by rw [hnz.out, hZ.out, hz1]; rfl)
        have hnx2 : Hid (adB (0, (ovB GL (rsD T)).take a) d R = (0, (ovB GL (rsD T)).take (a + 1))) := Lib.hid (by have h := hnx.out; rw [hRd.out] at h; exact h)
        have HMI : Hid (∀ x ∈ (ovB GL (rsD T)).take a, inF x.2) := Lib.hid fun x hx => by
          obtain ⟨y, hy, rfl⟩ := List.mem_map.1 (show x ∈ GL.map (fun h => (h, (rsD T) h)) from List.mem_of_mem_take hx)
          exact (HTR.out y hy).1
        have HLL : Hid (((ovB GL (rsD T)).take a).length ≤ 1100) := Lib.hid (by
          have h : ((ovB GL (rsD T)).take a).length ≤ a := by rw [List.length_take]; omega
          omega)
        subst hC0
        clear hm hR0 hz1 hz2
        go_wp2_with fail
        (refine last_region (S := (fun w' => w'.cell? ⟨bl, off + a * 3, none⟩ = some (.int .i64 d.1) ∧ w'.cell? ⟨bl, off + a * 3 + 1, none⟩ = some (.int .i64 d.2.1) ∧ w'.cell? ⟨bl, off + a * 3 + 2, none⟩ = some (.int .u32 d.2.2) ∧ w'.cell? ⟨w7.heap.size, 0, none⟩ = some (.int .i64 R.1) ∧ w'.cell? ⟨w7.heap.size, 1, none⟩ = some (.int .i64 R.2))) 6 (by kernel_rfl) ?_ (fun hHeld => ?_); (focus (first | exact hS | (simp [*, go_sem]; done) | fail)); refine last_take 0 (some 51) (v := ?_) rfl (by kernel_rfl) (by kernel_rfl) (by kernel_rfl) (by kernel_rfl) (by decide) (by kernel_rfl) (fun _ _ _ h => h) (Or.inl ⟨by kernel_rfl, ?_⟩) (by assumption) ?_; rotate_left; (focus (intro w' hSw; (try dsimp only at hSw); go_simp; (try with_reducible rfl))); (try simp only [Act.put, nA, nB, nC]); refine last_take 1 (some 52) (v := ?_) rfl (by kernel_rfl) (by kernel_rfl) (by kernel_rfl) (by kernel_rfl) (by decide) (by kernel_rfl) (fun _ _ _ h => h) (Or.inl ⟨by kernel_rfl, ?_⟩) (by assumption) ?_; rotate_left; (focus (intro w' hSw; (try dsimp only at hSw); go_simp; (try with_reducible rfl))); (try simp only [Act.put, nA, nB, nC]); refine last_take 2 (some 53) (v := ?_) rfl (by kernel_rfl) (by kernel_rfl) (by kernel_rfl) (by kernel_rfl) (by decide) (by kernel_rfl) (fun _ _ _ h => h) (Or.inl ⟨by kernel_rfl, ?_⟩) (by assumption) ?_; rotate_left; (focus (intro w' hSw; (try dsimp only at hSw); go_simp; (try with_reducible rfl))); (try simp only [Act.put, nA, nB, nC]); refine last_take 3 (some 54) (v := ?_) rfl (by kernel_rfl) (by kernel_rfl) (by kernel_rfl) (by kernel_rfl) (by decide) (by kernel_rfl) (fun _ _ _ h => h) (Or.inl ⟨by kernel_rfl, ?_⟩) (by assumption) ?_; rotate_left; (focus (intro w' hSw; (try dsimp only at hSw); go_simp; (try with_reducible rfl))); (try simp only [Act.put, nA, nB, nC]); refine last_take 4 (some 55) (v := ?_) rfl (by kernel_rfl) (by kernel_rfl) (by kernel_rfl) (by kernel_rfl) (by decide) (by kernel_rfl) (fun _ _ _ h => h) (Or.inl ⟨by kernel_rfl, ?_⟩) (by assumption) ?_; rotate_left; (focus (intro w' hSw; (try dsimp only at hSw); go_simp; (try with_reducible rfl))); (try simp only [Act.put, nA, nB, nC]); refine last_take 5 (some 56) (v := ?_) rfl (by kernel_rfl) (by kernel_rfl) (by kernel_rfl) (by kernel_rfl) (by decide) (by kernel_rfl) (fun _ _ _ h => h) (Or.inl ⟨by kernel_rfl, ?_⟩) (by assumption) ?_; rotate_left; (focus (intro w' hSw; (try dsimp only at hSw); go_simp; (try with_reducible rfl))); (try simp only [Act.put, nA, nB, nC]); refine last_end (by kernel_rfl) rfl (fun K hK => ?_); go_simp; (go_at_call 80; refine Calls.mono (bAdd_any _ w5.heap.size bb k te m 0 ((ovB GL (rsD T)).take a) d R (HBL7.out.below (by repeat (first | with_reducible exact Below.refl _ _ | with_reducible refine bdrew1 ?_ | with_reducible refine bal ?_ _ | with_reducible refine Below.setCell ?_ ?_ _ | (show w7.heap.size ≤ w7.heap.size; exact Nat.le_refl _)))) HOK.out hmi.out (fun _ => HMI.out) HLL.out) ?_; rw [hnx2.out]; rintro e0 w8 ⟨rfl, hBl8, hb⟩; have HBL8 := Lib.hid hBl8; have HB8 := Lib.hid (show Below w5.heap.size w7 w8 from Below.trans (Below.mono (B := w7.heap.size) (by repeat (first | with_reducible exact Below.refl _ _ | with_reducible refine bdrew1 ?_ | with_reducible refine bal ?_ _ | with_reducible refine Below.setCell ?_ ?_ _ | (show w7.heap.size ≤ w7.heap.size; exact Nat.le_refl _))) (by omega)) hb); clear hBl8 hb); go_wp2_with fail; refine hK.out _ _ ?_; clear hK K hHeld; (try simp only [Act.put, nA, nB, nC]); refine last_done (by kernel_rfl) ?_ _)
        go_wp2_with fail
        go_roundw
        case rel =>
          exact ⟨a + 1, by omega, by go_num, bblk HB8.out (by omega) KR7.out, hnz2, HBL8, (hB.trans (HB7.out.mono hzB)).trans HB8.out⟩
        case measure => simp [intOf]; omega
    · have e : a = N := by omega
      subst e
      have hMl : Hid ((ovB GL (rsD T)).length = a) := Lib.hid ((ovB_len _ _).trans hN.out)
      have htk : Hid ((ovB GL (rsD T)).take a = ovB GL (rsD T)) := Lib.hid (List.take_of_length_le (by rw [hMl.out]; exact Nat.le_refl _))
      have hz0 : Hid (tdC (anyF (rsZ T) GL) (ovB GL (rsD T)) = enC 0 (ovB GL (rsD T))) := Lib.hid (by
        have h := hZ.out
        rw [show GL.take a = GL from List.take_of_length_le (by rw [hN.out]; exact Nat.le_refl _)] at h
        rw [h]
        rfl)
      have HBL9 : Hid (Bld w5.heap.size W0 bb k te m 0 (ovB GL (rsD T))) := Lib.hid (by have h := hBl.out; rw [htk.out] at h; exact h)
      clear kr
      go_wp2_with fail
      refine Calls.mono (bEnd_any _ w5.heap.size bb k te m 0 (ovB GL (rsD T)) HBL9.out (by rw [hMl.out]; omega)) ?_
      rintro e0 w9 ⟨A9, cap9, F9, rfl, hO9, hb9⟩
      have kr := bblk hb9 yr KR.out
      have hbb : Below w.heap.size w w9 := HB0.out.trans (hb9.mono HB0.out.size)
      obtain ⟨C, hC⟩ : ∃ C, Hid (enC 0 (ovB GL (rsD T)) = C) := ⟨_, Lib.hid rfl⟩
      rw [hC.out] at hO9 ⊢
      obtain ⟨XL, hXL, NX, hNX⟩ : ∃ XL : List Trm, Hid (tdL C (nzT (ovB GL (rsD T))) = XL) ∧ ∃ NX : Nat, Hid (XL.length = NX) := ⟨_, Lib.hid rfl, _, Lib.hid rfl⟩
      rw [hXL.out] at hO9 ⊢
      rw [hNX.out] at hO9 ⊢
      have HO9 := Lib.hid hO9
      have hzz9 : W0.heap.size ≤ w9.heap.size := hb9.size
      obtain ⟨⟨c50, c51, c52, c53⟩, f50, f51, f52, f53⟩ := blk4 kr
      have zz9 := blklt kr
      clear hO9 hb9 kr
      go_wp2_with fail
      refine bodyPost_ret (v := .tuple #[.agg #[.int .i64 (tdT C (k, te)).1, .int .u32 (tdT C (k, te)).2, .int .i64 (tdS C m), .slice A9 NX cap9], .int .i64 C]) (by simp [results, Tryz.results32, go_sem, *]) rfl ?_
      rw [hz0.out, hC.out, hXL.out]
      refine ⟨A9, cap9, F9, ?_, ?_, ?_⟩
      · rw [hNX.out]
      · rw [hNX.out]
        refine HO9.out.move (by omega) fun q h1 _ => ?_
        have hne : q ≠ w.heap.size := by omega
        exact (Below.heap_setCell _ ⟨w.heap.size, 3, none⟩ _ q hne).trans ((Below.heap_setCell _ ⟨w.heap.size, 2, none⟩ _ q hne).trans ((Below.heap_setCell _ ⟨w.heap.size, 1, none⟩ _ q hne).trans (Below.heap_setCell _ ⟨w.heap.size, 0, none⟩ _ q hne)))
      · exact belA
end Go.Proofs.YtpcjinbbgnmchaaGreat

/- A sum raised to a greater size: spec.RaiseSum. -/
namespace Go.Proofs.YtpcjinbbgnmchaaGreat
open Go.ChangeShapes Go.WideShapes Go.RowKit
set_option linter.unusedVariables false
set_option linter.unusedSimpArgs false
attribute [local irreducible] Calls
end Go.Proofs.YtpcjinbbgnmchaaGreat

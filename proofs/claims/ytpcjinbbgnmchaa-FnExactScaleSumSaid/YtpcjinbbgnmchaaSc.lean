/- A sum times a fraction: spec.l05Scale. -/
import Derived.Test.YtpcjinbbgnmchaaBw
import Derived.Test.YtpcjinbbgnmchaaSli
import Derived.Deep.CutRange
namespace Go.Proofs.Ytpcjinbbgnmchaa
open Go.ChangeShapes Go.WideShapes Go.RowKit
set_option linter.unusedVariables false
set_option linter.unusedSimpArgs false
attribute [local irreducible] Calls
def scC (xs : List Trm) (q : Int × Int) : Int := tdC (scZ xs q) (scX xs q)
set_option maxHeartbeats 4000000 in
theorem l05Scale_any (w : World) (ba : Nat) (tn te s : Int) (T : List Trm) (v : Value) (q : Int × Int) (hba : w.heap[ba]? = some (.cells #[.int .i64 tn, .int .u32 te, .int .i64 s, v] 34 (0, 0))) (hT : Lst shTerm w T v) (hl : T.length ≤ 1048576) (hin : ∀ t ∈ T, inF t.2) (hq : inF q) (hpw : T.Pairwise ltE) :
    Calls Try.prog 22 #[.pointer (some ⟨ba, 0, none⟩), .agg #[.int .i64 q.1, .int .i64 q.2]] w (SumRet w.heap.size w (scC T q) (tdT (scC T q) (tn, te)) (tdS (scC T q) s) (tdL (scC T q) (nzT (scX T q)))) := by
  have HIN := Lib.hid hin
  have HQ := Lib.hid hq
  have HPW := Lib.hid (scX_pw q hpw)
  obtain ⟨A, cap, rfl, hcc, hm, hok, hel⟩ := lstTerm hT
  unfold maxLen at hm
  have HEL := Lib.hid hel
  obtain ⟨N, hN⟩ : ∃ N, Hid (T.length = N) := ⟨_, Lib.hid rfl⟩
  rw [hN.out] at hl hcc HEL hba
  obtain ⟨a0, a1, a2, a3⟩ := blkc4 hba
  have yba := blklt hba
  have KA := Lib.hid hba
  have hMl : Hid ((scX T q).length = N) := Lib.hid (by unfold scX; rw [List.length_map, hN.out])
  clear hT hin hok hel hba hpw hq
  go_enter Try.func22, Try.ntmps22
  go_wp2_with fail
  (refine wp_region_held_drew (S := (fun w' => w'.cell? ⟨ba, 0, none⟩ = some (.int .i64 tn) ∧ w'.cell? ⟨ba, 1, none⟩ = some (.int .u32 te) ∧ w'.cell? ⟨ba, 2, none⟩ = some (.int .i64 s))) (by kernel_rfl) ?_ (fun hHeld => ?_); (focus (first | exact hS | (simp [*, go_sem]; done) | fail)); refine rt 0 (some 10) (v := ?_) rfl rfl ?_ ?_; rotate_left; (focus (intro w' hSw; (try dsimp only at hSw); go_simp; (try with_reducible rfl))); (try simp only [Act.put, nA, nB, nC]); refine rt 1 (some 11) (v := ?_) rfl rfl ?_ ?_; rotate_left; (focus (intro w' hSw; (try dsimp only at hSw); go_simp; (try with_reducible rfl))); (try simp only [Act.put, nA, nB, nC]); refine rt 2 (some 12) (v := ?_) rfl rfl ?_ ?_; rotate_left; (focus (intro w' hSw; (try dsimp only at hSw); go_simp; (try with_reducible rfl))); (try simp only [Act.put, nA, nB, nC]); refine rt 3 (some 13) (v := ?_) rfl rfl ?_ ?_; rotate_left; (focus (intro w' hSw; (try dsimp only at hSw); go_simp; (try with_reducible rfl))); (try simp only [Act.put, nA, nB, nC]); refine rt 4 (some 14) (v := ?_) rfl rfl ?_ ?_; rotate_left; (focus (intro w' hSw; (try dsimp only at hSw); go_simp; (try with_reducible rfl))); (try simp only [Act.put, nA, nB, nC]); refine rt 5 (some 15) (v := ?_) rfl rfl ?_ ?_; rotate_left; (focus (intro w' hSw; (try dsimp only at hSw); go_simp; (try with_reducible rfl))); (try simp only [Act.put, nA, nB, nC]); refine rt 6 (some 16) (v := ?_) rfl rfl ?_ ?_; rotate_left; (focus (intro w' hSw; (try dsimp only at hSw); go_simp; (try with_reducible rfl))); (try simp only [Act.put, nA, nB, nC]); refine rt 7 (some 17) (v := ?_) rfl rfl ?_ ?_; rotate_left; (focus (intro w' hSw; (try dsimp only at hSw); go_simp; (try with_reducible rfl))); (try simp only [Act.put, nA, nB, nC]); refine wpAnyH_ready (rs := [8]) (by kernel_rfl) (by simp) ?_; refine AllReadyH.cons rfl (fun K hK => ?_) AllReadyH.nil; go_simp; (go_at_call 33; refine Calls.mono (bBegin_any _ tn te s) ?_; rintro e0 w1 ⟨bb, rfl, hBl, hb⟩; have hS := And.intro (bkeep hb hHeld.1) (And.intro (bkeep hb hHeld.2.1) (bkeep hb hHeld.2.2)); have HBL := Lib.hid hBl; have HB1 := Lib.hid (show Below w.heap.size w w1 from Below.trans belA (hb.mono (by first | omega | (simp <;> omega)))); have kq := bblk hb (by simp <;> omega) (show _ = some (.cells #[.int .i64 q.1, .int .i64 q.2] 38 (0, 0)) from blkdrew (blkal (blknew w _) _)); have kr := bblk hb (by simp <;> omega) (show _ = some (.cells #[.int .i64 0, .int .u32 0, .int .i64 0, .slice none 0 0] 34 (0, 0)) from blkdrew (blknew' _ _ (w.heap.size + 1) (by simp))); have hz1 := hb.size; clear hb hBl); go_wp2_with fail; refine hK.out _ _ ?_ (fun hHeld => ?_); (focus (first | exact hS | (simp [*, go_sem]; done) | fail)); clear hK K; (try simp only [Act.put, nA, nB, nC]); refine rt 9 (some 6) (v := ?_) rfl rfl ?_ ?_; rotate_left; (focus (intro w' hSw; (try dsimp only at hSw); go_simp; (try with_reducible rfl))); (try simp only [Act.put, nA, nB, nC]); refine wpAnyH_done (by kernel_rfl) ?_ _)
  clear hHeld
  have hz1' : w.heap.size + 2 ≤ w1.heap.size := by simp at hz1; omega
  have KQ := Lib.hid kq
  have KR := Lib.hid kr
  have HBL' : Hid (Bld (w.heap.size + 2) w1 bb tn te s 0 []) := Lib.hid (by have h := HBL.out; simp at h; exact h)
  clear kq kr hz1 HBL a0 a1 a2
  go_wp2_with fail
  go_loopw [7] (fun i wr => ∃ (k : Nat), k ≤ N ∧ i = .int .i64 k ∧ wr.heap[w.heap.size]? = some (.cells #[.int .i64 q.1, .int .i64 q.2] 38 (0, 0)) ∧ wr.heap[w.heap.size + 1]? = some (.cells #[.int .i64 0, .int .u32 0, .int .i64 0, .slice none 0 0] 34 (0, 0)) ∧ Hid (scZ (T.take k) q = false) ∧ Hid (Bld (w.heap.size + 2) wr bb tn te s 0 ((scX T q).take k)) ∧ Below w.heap.size w wr) (fun i _ => N - (intOf i).toNat)
  case atStart =>
    exact ⟨0, Nat.zero_le _, rfl, KQ.out, KR.out, Lib.hid rfl, HBL', HB1.out⟩
  case round =>
    obtain ⟨k, hk, rfl, kq, kr, hZ, hBl, hB⟩ := hrel
    obtain ⟨W0, rfl⟩ : ∃ x, x = wr := ⟨_, rfl⟩
    obtain ⟨q0, q1⟩ := blkc2 kq
    obtain ⟨⟨r0, r1, r2, r3⟩, f0, f1, f2, f3⟩ := blk4 kr
    have yq := blklt kq
    have yr := blklt kr
    have KQ := Lib.hid kq
    have KR := Lib.hid kr
    have hzB := hB.size
    have b3 := bkeep hB a3
    have yb : ba < W0.heap.size := by omega
    have hbb := hBl.out.lt
    by_cases hlt : k < N
    · have hk8 : (k : Int) < (N : Int) := by omega
      obtain ⟨bl, off, rfl, hel⟩ := HEL.out (by omega)
      obtain ⟨t, ht, hto, x0, x1, x2, x3, x4⟩ := hel k hlt
      have zb := World.block_lt_of_cell? _ _ x0
      simp only at zb
      replace x0 := bkeep hB x0
      replace x1 := bkeep hB x1
      replace x2 := bkeep hB x2
      replace x3 := bkeep hB x3
      replace x4 := bkeep hB x4
      have HTO := Lib.hid hto
      have HI := Lib.hid (HIN.out t (List.mem_of_getElem? ht))
      have HT := Lib.hid ht
      have hnz := Lib.hid (scZ_take (q := q) ht)
      have hnx := Lib.hid (adB_take HPW.out (scX_at (q := q) ht))
      obtain ⟨R, hR⟩ : ∃ R, Hid (rD (mulO t.2 q) = R) := ⟨_, Lib.hid rfl⟩
      obtain ⟨RC, hRC⟩ : ∃ RC, Hid (rC (mulO t.2 q) = RC) := ⟨_, Lib.hid rfl⟩
      clear kq kr hel ht hto
      go_upto_region 5 with fail
      go_cut [8, 9] from 19 to 55 (fun s8 s9 wx => ∃ g8 : Nat, s8 = .pointer (some ⟨g8, 0, none⟩) ∧ s9 = .int .i64 RC ∧ wx.heap[g8]? = some (.cells #[.int .i64 R.1, .int .i64 R.2] 38 (0, 0)) ∧ Below W0.heap.size W0 wx ∧ W0.heap.size ≤ g8)
      case first =>
        (refine wp_region_held_drew (S := (fun w' => w'.cell? ⟨ba, 3, none⟩ = some (.slice (some ⟨bl, off, none⟩) N cap) ∧ w'.cell? ⟨bl, off + k * 5 + 3, none⟩ = some (.int .i64 t.2.1) ∧ w'.cell? ⟨bl, off + k * 5 + 4, none⟩ = some (.int .i64 t.2.2) ∧ w'.cell? ⟨w.heap.size, 0, none⟩ = some (.int .i64 q.1) ∧ w'.cell? ⟨w.heap.size, 1, none⟩ = some (.int .i64 q.2))) (by kernel_rfl) ?_ (fun hHeld => ?_); (focus (first | exact hS | (simp [*, go_sem]; done) | fail)); refine rt 0 (some 29) (v := ?_) rfl rfl ?_ ?_; rotate_left; (focus (intro w' hSw; (try dsimp only at hSw); go_simp; (try with_reducible rfl))); (try simp only [Act.put, nA, nB, nC]); refine rt 1 (some 30) (v := ?_) rfl rfl ?_ ?_; rotate_left; (focus (intro w' hSw; (try dsimp only at hSw); go_simp; (try with_reducible rfl))); (try simp only [Act.put, nA, nB, nC]); refine rt 2 (some 31) (v := ?_) rfl rfl ?_ ?_; rotate_left; (focus (intro w' hSw; (try dsimp only at hSw); go_simp; (try with_reducible rfl))); (try simp only [Act.put, nA, nB, nC]); refine rt 3 (some 32) (v := ?_) rfl rfl ?_ ?_; rotate_left; (focus (intro w' hSw; (try dsimp only at hSw); go_simp; (try with_reducible rfl))); (try simp only [Act.put, nA, nB, nC]); refine rt 4 (some 33) (v := ?_) rfl rfl ?_ ?_; rotate_left; (focus (intro w' hSw; (try dsimp only at hSw); go_simp; (try with_reducible rfl))); (try simp only [Act.put, nA, nB, nC]); refine rt 5 (some 34) (v := ?_) rfl rfl ?_ ?_; rotate_left; (focus (intro w' hSw; (try dsimp only at hSw); go_simp; (try with_reducible rfl))); (try simp only [Act.put, nA, nB, nC]); refine rt 6 (some 35) (v := ?_) rfl rfl ?_ ?_; rotate_left; (focus (intro w' hSw; (try dsimp only at hSw); go_simp; (try with_reducible rfl))); (try simp only [Act.put, nA, nB, nC]); refine rt 7 (some 36) (v := ?_) rfl rfl ?_ ?_; rotate_left; (focus (intro w' hSw; (try dsimp only at hSw); go_simp; (try with_reducible rfl))); (try simp only [Act.put, nA, nB, nC]); refine rt 8 (some 37) (v := ?_) rfl rfl ?_ ?_; rotate_left; (focus (intro w' hSw; (try dsimp only at hSw); go_simp; (try with_reducible rfl))); (try simp only [Act.put, nA, nB, nC]); refine wpAnyH_ready (rs := [9, 13]) (by kernel_rfl) (by simp) ?_; refine AllReadyH.cons rfl (fun K hK => ?_) (AllReadyH.cons rfl (fun K hK => ?_) AllReadyH.nil); (focus (go_simp; (go_at_call 49; refine Calls.mono (rmul_any t.2 q _ HI.out HQ.out) ?_; rw [hR.out, hRC.out]; rintro e0 w4 ⟨rfl, hb⟩; have hS := And.intro (bkeep hb hHeld.1) (And.intro (bkeep hb hHeld.2.1) (And.intro (bkeep hb hHeld.2.2.1) (And.intro (bkeep hb hHeld.2.2.2.1) (bkeep hb hHeld.2.2.2.2)))); have HB4 := Lib.hid (show Below W0.heap.size W0 w4 from Below.trans belA (hb.mono (by first | omega | (simp <;> omega)))); (try (have kz := bblk hb (blklt kp) kp; clear kp; have kp := kz; clear kz; obtain ⟨pz0, pz1, pf0, pf1⟩ := blk2 kp; have pzz := blklt kp)); have hz4 := HB4.out.size; have y41 : ba < w4.heap.size := (by omega); have y42 : bl < w4.heap.size := (by omega); have y43 : w.heap.size < w4.heap.size := (by omega); clear hb); go_wp2_with fail; refine hK.out _ _ ?_ (fun hHeld => ?_); (focus (first | exact hS | (simp [*, go_sem]; done) | fail)); clear hK K; (try simp only [Act.put, nA, nB, nC]); refine rt 10 (some 28) (v := ?_) rfl rfl ?_ ?_; rotate_left; (focus (intro w' hSw; (try dsimp only at hSw); go_simp; (try with_reducible rfl))); (try simp only [Act.put, nA, nB, nC]); refine rt 11 (some 39) (v := ?_) rfl rfl ?_ ?_; rotate_left; (focus (intro w' hSw; (try dsimp only at hSw); go_simp; (try with_reducible rfl))); (try simp only [Act.put, nA, nB, nC]); refine rt 12 (some 40) (v := ?_) rfl rfl ?_ ?_; rotate_left; (focus (intro w' hSw; (try dsimp only at hSw); go_simp; (try with_reducible rfl))); (try simp only [Act.put, nA, nB, nC]); refine wpAnyH_ready (rs := [13]) (by kernel_rfl) (by simp) ?_; refine AllReadyH.cons rfl (fun K hK => ?_) AllReadyH.nil; (try go_simp); refine hK.out _ _ ?_ (fun hHeld => ?_); (focus (first | exact hS | (simp [*, go_sem]; done) | fail)); clear hK K; (try simp only [Act.put, nA, nB, nC]); refine wpAnyH_ready (rs := [14]) (by kernel_rfl) (by simp) ?_; refine AllReadyH.cons rfl (fun K hK => ?_) AllReadyH.nil; (try go_simp); refine hK.out _ _ ?_ (fun hHeld => ?_); (focus (first | exact hS | (simp [*, go_sem]; done) | fail)); clear hK K; (try simp only [Act.put, nA, nB, nC]); refine rt 15 (some 9) (v := ?_) rfl rfl ?_ ?_; rotate_left; (focus (intro w' hSw; (try dsimp only at hSw); go_simp; (try with_reducible rfl))); (try simp only [Act.put, nA, nB, nC]); refine wpAnyH_done (by kernel_rfl) ?_ _)); rotate_left 1; (focus (((try go_simp); have hS := And.intro (bkeep (bal (Below.refl W0.drew.heap.size W0.drew) (.cells #[.int .i64 0, .int .i64 0] 38)) hHeld.1) (And.intro (bkeep (bal (Below.refl W0.drew.heap.size W0.drew) (.cells #[.int .i64 0, .int .i64 0] 38)) hHeld.2.1) (And.intro (bkeep (bal (Below.refl W0.drew.heap.size W0.drew) (.cells #[.int .i64 0, .int .i64 0] 38)) hHeld.2.2.1) (And.intro (bkeep (bal (Below.refl W0.drew.heap.size W0.drew) (.cells #[.int .i64 0, .int .i64 0] 38)) hHeld.2.2.2.1) (bkeep (bal (Below.refl W0.drew.heap.size W0.drew) (.cells #[.int .i64 0, .int .i64 0] 38)) hHeld.2.2.2.2)))); have kp : (W0.drew.alloc (.cells #[.int .i64 0, .int .i64 0] 38)).heap[W0.heap.size]? = _ := blknew W0.drew _; have hnb : W0.heap.size ≤ W0.heap.size := Nat.le_refl _); refine hK.out _ _ ?_ (fun hHeld => ?_); (focus (first | exact hS | (simp [*, go_sem]; done) | fail)); clear hK K; (try simp only [Act.put, nA, nB, nC]); refine wpAnyH_ready (rs := [9]) (by kernel_rfl) (by simp) ?_; refine AllReadyH.cons rfl (fun K hK => ?_) AllReadyH.nil; go_simp; (go_at_call 49; refine Calls.mono (rmul_any t.2 q _ HI.out HQ.out) ?_; rw [hR.out, hRC.out]; rintro e0 w4 ⟨rfl, hb⟩; have hS := And.intro (bkeep hb hHeld.1) (And.intro (bkeep hb hHeld.2.1) (And.intro (bkeep hb hHeld.2.2.1) (And.intro (bkeep hb hHeld.2.2.2.1) (bkeep hb hHeld.2.2.2.2)))); have HB4 := Lib.hid (show Below W0.heap.size W0 w4 from Below.trans belA (hb.mono (by first | omega | (simp <;> omega)))); (try (have kz := bblk hb (blklt kp) kp; clear kp; have kp := kz; clear kz; obtain ⟨pz0, pz1, pf0, pf1⟩ := blk2 kp; have pzz := blklt kp)); have hz4 := HB4.out.size; have y41 : ba < w4.heap.size := (by omega); have y42 : bl < w4.heap.size := (by omega); have y43 : w.heap.size < w4.heap.size := (by omega); clear hb); go_wp2_with fail; refine hK.out _ _ ?_ (fun hHeld => ?_); (focus (first | exact hS | (simp [*, go_sem]; done) | fail)); clear hK K; (try simp only [Act.put, nA, nB, nC]); refine rt 10 (some 28) (v := ?_) rfl rfl ?_ ?_; rotate_left; (focus (intro w' hSw; (try dsimp only at hSw); go_simp; (try with_reducible rfl))); (try simp only [Act.put, nA, nB, nC]); refine rt 11 (some 39) (v := ?_) rfl rfl ?_ ?_; rotate_left; (focus (intro w' hSw; (try dsimp only at hSw); go_simp; (try with_reducible rfl))); (try simp only [Act.put, nA, nB, nC]); refine rt 12 (some 40) (v := ?_) rfl rfl ?_ ?_; rotate_left; (focus (intro w' hSw; (try dsimp only at hSw); go_simp; (try with_reducible rfl))); (try simp only [Act.put, nA, nB, nC]); refine wpAnyH_ready (rs := [14]) (by kernel_rfl) (by simp) ?_; refine AllReadyH.cons rfl (fun K hK => ?_) AllReadyH.nil; (try go_simp); refine hK.out _ _ ?_ (fun hHeld => ?_); (focus (first | exact hS | (simp [*, go_sem]; done) | fail)); clear hK K; (try simp only [Act.put, nA, nB, nC]); refine rt 15 (some 9) (v := ?_) rfl rfl ?_ ?_; rotate_left; (focus (intro w' hSw; (try dsimp only at hSw); go_simp; (try with_reducible rfl))); (try simp only [Act.put, nA, nB, nC]); refine wpAnyH_done (by kernel_rfl) ?_ _)); rotate_left 1)
        all_goals
          clear hHeld
          have hb4 := HB4.out
          go_wp2_with fail
          go_meet
          exact ⟨_, rfl, rfl, blkA, belA, (by first | omega | (simp <;> omega))⟩
      case rest =>
        obtain ⟨g8, rfl, rfl, k8, hBx, hg8⟩ := hcut
        obtain ⟨w5, rfl⟩ : ∃ z, z = wc := ⟨_, rfl⟩
        have HB5 := Lib.hid hBx
        have hBw5 := hB.trans (hBx.mono hzB)
        have hz5 := hBx.size
        obtain ⟨u0, u1⟩ := blkc2 k8
        have y8 := blklt k8
        have kq := bblk hBx yq KQ.out
        have kr := bblk hBx yr KR.out
        have c3 := bkeep hBx b3
        have z0 := bkeep hBx x0
        have z1 := bkeep hBx x1
        have z2 := bkeep hBx x2
        obtain ⟨⟨p0, p1, p2, p3⟩, e0, e1, e2, e3⟩ := blk4 kr
        have yq5 := blklt kq
        have yr5 := blklt kr
        have KQ5 := Lib.hid kq
        have KR5 := Lib.hid kr
        have HBL5 := Lib.hid (hBl.out.below hBx)
        have HB5w := Lib.hid hBw5
        clear hBx k8 kq kr b3 x0 x1 x2 x3 x4 q0 q1 r0 r1 r2 r3 f0 f1 f2 f3 a3
        cases hm : mulO t.2 q with
        | none =>
          have hC0 : RC = 3 := by rw [← hRC.out, hm]; rfl
          have hr : Hid (scC T q = 3) := Lib.hid (by unfold scC; rw [scZ_none HT.out hm]; rfl)
          subst hC0
          clear hm
          go_wp2_with fail
          refine bodyPost_ret (v := .tuple #[.agg #[.int .i64 0, .int .u32 0, .int .i64 0, .slice none 0 0], .int .i64 3]) (by simp [results, Try.results22, go_sem, *]) rfl ?_
          rw [hr.out]
          exact sumRet_no rfl rfl rfl (by have hb2 := HB5w.out; exact belA) rfl
        | some mm =>
          have hR0 : R = mm := by rw [← hR.out, hm]; rfl
          have hC0 : RC = 0 := by rw [← hRC.out, hm]; rfl
          have hmi : Hid (inF R) := Lib.hid (by rw [hR0]; exact mulO_in HI.out.2.2.1 HQ.out.2.2.1 hm)
          have hK : Hid (kD (mulO t.2 q) = R) := Lib.hid (by rw [hR0, hm]; rfl)
          have hnz2 : Hid (scZ (T.take (k + 1)) q = false) := Lib.hid (by rw [hnz.out, hZ.out, hm]; rfl)
          have hnx2 : Hid (adB (0, (scX T q).take k) t.1 R = (0, (scX T q).take (k + 1))) := Lib.hid (by have h := hnx.out; rw [← hK.out]; exact h)
          have HTF : Hid (okFlag t.1) := Lib.hid HTO.out.1
          have HMI : Hid (∀ d ∈ (scX T q).take k, inF d.2) := Lib.hid fun d hd => by
            have h1 := List.mem_of_mem_take hd
            unfold scX at h1
            obtain ⟨y, hy, rfl⟩ := List.mem_map.1 h1
            exact kmulI (HIN.out y hy) HQ.out
          have HLL : Hid (((scX T q).take k).length ≤ 1048576) := Lib.hid (by rw [List.length_take, hMl.out]; omega)
          subst hC0
          clear hm hR0
          go_wp2_with fail
          (refine last_region (S := (fun w' => w'.cell? ⟨ba, 3, none⟩ = some (.slice (some ⟨bl, off, none⟩) N cap) ∧ w'.cell? ⟨bl, off + k * 5, none⟩ = some (.int .i64 t.1.1) ∧ w'.cell? ⟨bl, off + k * 5 + 1, none⟩ = some (.int .i64 t.1.2.1) ∧ w'.cell? ⟨bl, off + k * 5 + 2, none⟩ = some (.int .u32 t.1.2.2) ∧ w'.cell? ⟨g8, 0, none⟩ = some (.int .i64 R.1) ∧ w'.cell? ⟨g8, 1, none⟩ = some (.int .i64 R.2))) 10 (by kernel_rfl) ?_ (fun hHeld => ?_); (focus (first | exact hS | (simp [*, go_sem]; done) | fail)); refine last_take 0 (some 45) (v := ?_) rfl (by kernel_rfl) (by kernel_rfl) (by kernel_rfl) (by kernel_rfl) (by decide) (by kernel_rfl) (fun _ _ _ h => h) (Or.inl ⟨by kernel_rfl, ?_⟩) (by assumption) ?_; rotate_left; (focus (intro w' hSw; (try dsimp only at hSw); go_simp; (try with_reducible rfl))); (try simp only [Act.put, nA, nB, nC]); refine last_take 1 (some 46) (v := ?_) rfl (by kernel_rfl) (by kernel_rfl) (by kernel_rfl) (by kernel_rfl) (by decide) (by kernel_rfl) (fun _ _ _ h => h) (Or.inl ⟨by kernel_rfl, ?_⟩) (by assumption) ?_; rotate_left; (focus (intro w' hSw; (try dsimp only at hSw); go_simp; (try with_reducible rfl))); (try simp only [Act.put, nA, nB, nC]); refine last_take 2 (some 47) (v := ?_) rfl (by kernel_rfl) (by kernel_rfl) (by kernel_rfl) (by kernel_rfl) (by decide) (by kernel_rfl) (fun _ _ _ h => h) (Or.inl ⟨by kernel_rfl, ?_⟩) (by assumption) ?_; rotate_left; (focus (intro w' hSw; (try dsimp only at hSw); go_simp; (try with_reducible rfl))); (try simp only [Act.put, nA, nB, nC]); refine last_take 3 (some 48) (v := ?_) rfl (by kernel_rfl) (by kernel_rfl) (by kernel_rfl) (by kernel_rfl) (by decide) (by kernel_rfl) (fun _ _ _ h => h) (Or.inl ⟨by kernel_rfl, ?_⟩) (by assumption) ?_; rotate_left; (focus (intro w' hSw; (try dsimp only at hSw); go_simp; (try with_reducible rfl))); (try simp only [Act.put, nA, nB, nC]); refine last_take 4 (some 49) (v := ?_) rfl (by kernel_rfl) (by kernel_rfl) (by kernel_rfl) (by kernel_rfl) (by decide) (by kernel_rfl) (fun _ _ _ h => h) (Or.inl ⟨by kernel_rfl, ?_⟩) (by assumption) ?_; rotate_left; (focus (intro w' hSw; (try dsimp only at hSw); go_simp; (try with_reducible rfl))); (try simp only [Act.put, nA, nB, nC]); refine last_take 5 (some 50) (v := ?_) rfl (by kernel_rfl) (by kernel_rfl) (by kernel_rfl) (by kernel_rfl) (by decide) (by kernel_rfl) (fun _ _ _ h => h) (Or.inl ⟨by kernel_rfl, ?_⟩) (by assumption) ?_; rotate_left; (focus (intro w' hSw; (try dsimp only at hSw); go_simp; (try with_reducible rfl))); (try simp only [Act.put, nA, nB, nC]); refine last_take 6 (some 51) (v := ?_) rfl (by kernel_rfl) (by kernel_rfl) (by kernel_rfl) (by kernel_rfl) (by decide) (by kernel_rfl) (fun _ _ _ h => h) (Or.inl ⟨by kernel_rfl, ?_⟩) (by assumption) ?_; rotate_left; (focus (intro w' hSw; (try dsimp only at hSw); go_simp; (try with_reducible rfl))); (try simp only [Act.put, nA, nB, nC]); refine last_take 7 (some 52) (v := ?_) rfl (by kernel_rfl) (by kernel_rfl) (by kernel_rfl) (by kernel_rfl) (by decide) (by kernel_rfl) (fun _ _ _ h => h) (Or.inl ⟨by kernel_rfl, ?_⟩) (by assumption) ?_; rotate_left; (focus (intro w' hSw; (try dsimp only at hSw); go_simp; (try with_reducible rfl))); (try simp only [Act.put, nA, nB, nC]); refine last_take 8 (some 53) (v := ?_) rfl (by kernel_rfl) (by kernel_rfl) (by kernel_rfl) (by kernel_rfl) (by decide) (by kernel_rfl) (fun _ _ _ h => h) (Or.inl ⟨by kernel_rfl, ?_⟩) (by assumption) ?_; rotate_left; (focus (intro w' hSw; (try dsimp only at hSw); go_simp; (try with_reducible rfl))); (try simp only [Act.put, nA, nB, nC]); refine last_take 9 (some 54) (v := ?_) rfl (by kernel_rfl) (by kernel_rfl) (by kernel_rfl) (by kernel_rfl) (by decide) (by kernel_rfl) (fun _ _ _ h => h) (Or.inl ⟨by kernel_rfl, ?_⟩) (by assumption) ?_; rotate_left; (focus (intro w' hSw; (try dsimp only at hSw); go_simp; (try with_reducible rfl))); (try simp only [Act.put, nA, nB, nC]); refine last_end (by kernel_rfl) rfl (fun K hK => ?_); go_simp; (go_at_call 34; refine Calls.mono (bAdd_any _ (w.heap.size + 2) bb tn te s 0 ((scX T q).take k) t.1 R (HBL5.out.below (bdrew1 (Below.refl _ _))) HTF.out hmi.out (fun _ => HMI.out) HLL.out) ?_; rw [hnx2.out]; rintro e0 w6 ⟨rfl, hBl6, hb⟩; have HBL6 := Lib.hid hBl6; have HB6 := Lib.hid (show Below (w.heap.size + 2) w5 w6 from Below.trans ((bdrew1 (Below.refl _ _)).mono (by omega)) hb); clear hBl6 hb); go_wp2_with fail; refine hK.out _ _ ?_; clear hK K hHeld; (try simp only [Act.put, nA, nB, nC]); refine last_done (by kernel_rfl) ?_ _)
          go_wp2_with fail
          go_roundw
          case rel =>
            exact ⟨k + 1, by omega, by go_num, bblk HB6.out (by omega) KQ5.out, bblk HB6.out (by omega) KR5.out, hnz2, HBL6, HB5w.out.trans (HB6.out.mono (by omega))⟩
          case measure => simp [intOf]; omega
    · have e : k = N := by omega
      subst e
      have htk : Hid ((scX T q).take k = scX T q) := Lib.hid (List.take_of_length_le (by rw [hMl.out]; exact Nat.le_refl _))
      have hz0 : Hid (scC T q = enC 0 (scX T q)) := Lib.hid (by
        have h := hZ.out
        rw [show T.take k = T from List.take_of_length_le (by rw [hN.out]; exact Nat.le_refl _)] at h
        unfold scC
        rw [h]
        rfl)
      have HBL9 : Hid (Bld (w.heap.size + 2) W0 bb tn te s 0 (scX T q)) := Lib.hid (by have h := hBl.out; rw [htk.out] at h; exact h)
      have HB0 := Lib.hid hB
      clear kq kr
      go_wp2_with fail
      refine Calls.mono (bEnd_any _ (w.heap.size + 2) bb tn te s 0 (scX T q) HBL9.out (by rw [hMl.out]; exact hl)) ?_
      rintro e0 w5 ⟨A5, cap5, F5, rfl, hO5, hb5⟩
      have kr := bblk hb5 yr KR.out
      have hbb : Below w.heap.size w w5 := hB.trans (hb5.mono hzB)
      obtain ⟨C, hC⟩ : ∃ C, Hid (enC 0 (scX T q) = C) := ⟨_, Lib.hid rfl⟩
      rw [hC.out] at hO5 ⊢
      obtain ⟨XL, hXL, NX, hNX⟩ : ∃ XL : List Trm, Hid (tdL C (nzT (scX T q)) = XL) ∧ ∃ NX : Nat, Hid (XL.length = NX) := ⟨_, Lib.hid rfl, _, Lib.hid rfl⟩
      rw [hXL.out] at hO5 ⊢
      rw [hNX.out] at hO5 ⊢
      have HO5 := Lib.hid hO5
      have hzz5 : W0.heap.size ≤ w5.heap.size := hb5.size
      obtain ⟨⟨c50, c51, c52, c53⟩, f50, f51, f52, f53⟩ := blk4 kr
      have zz5 := blklt kr
      clear hO5 hb5 kr
      go_wp2_with fail
      refine bodyPost_ret (v := .tuple #[.agg #[.int .i64 (tdT C (tn, te)).1, .int .u32 (tdT C (tn, te)).2, .int .i64 (tdS C s), .slice A5 NX cap5], .int .i64 C]) (by simp [results, Try.results22, go_sem, *]) rfl ?_
      rw [hz0.out, hC.out, hXL.out]
      refine ⟨A5, cap5, F5, ?_, ?_, ?_⟩
      · rw [hNX.out]
      · rw [hNX.out]
        refine HO5.out.move (by omega) fun q h1 _ => ?_
        have hne : q ≠ w.heap.size + 1 := by omega
        exact (Below.heap_setCell _ ⟨w.heap.size + 1, 3, none⟩ _ q hne).trans ((Below.heap_setCell _ ⟨w.heap.size + 1, 2, none⟩ _ q hne).trans ((Below.heap_setCell _ ⟨w.heap.size + 1, 1, none⟩ _ q hne).trans (Below.heap_setCell _ ⟨w.heap.size + 1, 0, none⟩ _ q hne)))
      · exact belA
end Go.Proofs.Ytpcjinbbgnmchaa

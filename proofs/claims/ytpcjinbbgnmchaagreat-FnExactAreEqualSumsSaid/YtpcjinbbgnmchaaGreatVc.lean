/- The value of a sum in a flag: spec.l05Value. -/
import Derived.Test.YtpcjinbbgnmchaaGreatVa
import Derived.Test.YtpcjinbbgnmchaaGreatDv
import Derived.Test.YtpcjinbbgnmchaaGreatSli
import Derived.Deep.CutRange
namespace Go.Proofs.YtpcjinbbgnmchaaGreat
open Go.ChangeShapes Go.WideShapes Go.RowKit
set_option linter.unusedVariables false
set_option linter.unusedSimpArgs false
attribute [local irreducible] Calls
theorem vO_succ {D : Trm → Int × Int} {T : List Trm} {a : Nat} {t : Trm} {o : Option (Int × Int)} (ho : vO D (T.take a) = o) (h : T[a]? = some t) : vO D (T.take (a + 1)) = dotS o (D t) t.2 := by
  subst ho
  unfold vO
  rw [List.take_add_one, h, List.foldl_append]
  rfl
theorem vO_none {D : Trm → Int × Int} {T : List Trm} {a : Nat} (h : vO D (T.take a) = none) : vO D T = none := by
  have hn : ∀ L : List Trm, L.foldl (fun o t => dotS o (D t) t.2) none = none := by
    intro L
    induction L with
    | nil => rfl
    | cons x L ih => exact ih
  have e : T = T.take a ++ T.drop a := (List.take_append_drop a T).symm
  rw [e]
  unfold vO at h ⊢
  rw [List.foldl_append, h]
  exact hn _
set_option maxHeartbeats 2000000 in
theorem l05Value_any (w : World) (ba : Nat) (tn te s : Int) (T : List Trm) (v : Value) (h : Flg) (D : Trm → Int × Int) (hba : w.heap[ba]? = some (.cells #[.int .i64 tn, .int .u32 te, .int .i64 s, v] 34 (0, 0))) (hT : Lst shTerm w T v) (hl : T.length ≤ 1000) (hin : ∀ t ∈ T, inF (D t) ∧ inF t.2)
    (hdn : ∀ t ∈ T, ∀ W, Calls Tryz.prog 147 #[.agg #[.int .i64 t.1.1, .int .i64 t.1.2.1, .int .u32 t.1.2.2], .agg #[.int .i64 h.1, .int .i64 h.2.1, .int .u32 h.2.2]] W fun r w' => r = .returned (.agg #[.int .i64 (D t).1, .int .i64 (D t).2]) ∧ Below W.heap.size W w') :
    Calls Tryz.prog 79 #[.pointer (some ⟨ba, 0, none⟩), .agg #[.int .i64 h.1, .int .i64 h.2.1, .int .u32 h.2.2]] w fun r w' => r = .returned (.tuple #[.agg #[.int .i64 (rD (vO D T)).1, .int .i64 (rD (vO D T)).2], .int .i64 (rC (vO D T))]) ∧ Below w.heap.size w w' := by
  have HIN := Lib.hid hin
  have HDN := Lib.hid hdn
  obtain ⟨A, cap, rfl, hcc, hm, hok, hel⟩ := lstTerm hT
  unfold maxLen at hm
  have HEL := Lib.hid hel
  obtain ⟨N, hN⟩ : ∃ N, Hid (T.length = N) := ⟨_, Lib.hid rfl⟩
  rw [hN.out] at hl hcc HEL hba
  obtain ⟨a0, a1, a2, a3⟩ := blkc4 hba
  have yba := blklt hba
  clear hT hin hdn hok hel hba
  go_enter Tryz.func79, Tryz.ntmps79
  go_wp2_with fail
  refine Calls.mono (sZero_any _) ?_
  rintro e0 w1 ⟨rfl, hb⟩
  have HB1 := Lib.hid (show Below w.heap.size w w1 from Below.trans belA (hb.mono (by simp <;> omega)))
  have k0 : w1.heap[w.heap.size]? = some (.cells #[.int .i64 h.1, .int .i64 h.2.1, .int .u32 h.2.2] 81 (0, 0)) := bblk hb (by simp <;> omega) blkA
  have k1 : w1.heap[w.heap.size + 1]? = some (.cells #[.int .i64 0, .int .i64 0] 53 (0, 0)) := bblk hb (by simp <;> omega) blkA
  have K0 := Lib.hid k0
  have K1 := Lib.hid k1
  have y1 := blklt k1
  obtain ⟨q, hq⟩ : ∃ q, w1.heap.size = q := ⟨_, rfl⟩
  clear hb k0 k1
  have hqw : w.heap.size + 1 < q := by omega
  have y0q : w.heap.size < q := by omega
  have yaq : ba < q := by omega
  go_wp2_with fail
  go_loopw [7] (fun i wr => ∃ (a : Nat) (d : Int × Int), a ≤ N ∧ i = .int .i64 a ∧ Hid (vO D (T.take a) = some d) ∧ Hid (inF d) ∧ wr.heap[q]? = some (.cells #[.int .i64 d.1, .int .i64 d.2] 53 (0, 0)) ∧ wr.heap[w.heap.size]? = some (.cells #[.int .i64 h.1, .int .i64 h.2.1, .int .u32 h.2.2] 81 (0, 0)) ∧ wr.heap[w.heap.size + 1]? = some (.cells #[.int .i64 0, .int .i64 0] 53 (0, 0)) ∧ Below w.heap.size w wr) (fun i _ => N - (intOf i).toNat)
  case atStart =>
    have hb1 := HB1.out
    have k0 := K0.out
    have k1 := K1.out
    exact ⟨0, (0, 1), Nat.zero_le _, rfl, Lib.hid rfl, Lib.hid zero_in, blknew' _ _ _ hq.symm, blkA, blkA, belA⟩
  case round =>
    obtain ⟨a, d, ha, rfl, hI, hd, kq, kg, kr, hB⟩ := hrel
    obtain ⟨W0, rfl⟩ : ∃ x, x = wr := ⟨_, rfl⟩
    obtain ⟨q0, q1⟩ := blkc2 kq
    obtain ⟨g1, g2, g3⟩ := blkc3 kg
    have yq := blklt kq
    have yg := blklt kg
    have yr := blklt kr
    have KQ := Lib.hid kq
    have KG := Lib.hid kg
    have KR := Lib.hid kr
    have hzB := hB.size
    have b3 := bkeep hB a3
    have yb : ba < W0.heap.size := by omega
    by_cases hlt : a < N
    · have hk8 : (a : Int) < (N : Int) := by omega
      obtain ⟨bl, off, rfl, hel⟩ := HEL.out (by omega)
      obtain ⟨t, ht, hto, x0, x1, x2, x3, x4⟩ := hel a hlt
      have zb := World.block_lt_of_cell? _ _ x0
      simp only at zb
      replace x0 := bkeep hB x0
      replace x1 := bkeep hB x1
      replace x2 := bkeep hB x2
      replace x3 := bkeep hB x3
      replace x4 := bkeep hB x4
      have zb2 := World.block_lt_of_cell? _ _ x0
      simp only at zb2
      have htm := List.mem_of_getElem? ht
      obtain ⟨i1, i2⟩ := HIN.out t htm
      have HI1 := Lib.hid i1
      have HI2 := Lib.hid i2
      have HC := Lib.hid (HDN.out t htm)
      have hnx := Lib.hid (vO_succ hI.out ht)
      obtain ⟨X, hX⟩ : ∃ X, Hid (D t = X) := ⟨_, Lib.hid rfl⟩
      rw [hX.out] at HC HI1 hnx
      obtain ⟨R, hR⟩ : ∃ R, Hid (rD (mulO X t.2) = R) := ⟨_, Lib.hid rfl⟩
      obtain ⟨RC, hRC⟩ : ∃ RC, Hid (rC (mulO X t.2) = RC) := ⟨_, Lib.hid rfl⟩
      have HKP : Hid (∀ V w' : World, Below V.heap.size V w' → (fun w' => w'.cell? ⟨ba, 3, none⟩ = some (.slice (some ⟨bl, off, none⟩) N cap) ∧ w'.cell? ⟨bl, off + a * 5, none⟩ = some (.int .i64 t.1.1) ∧ w'.cell? ⟨bl, off + a * 5 + 1, none⟩ = some (.int .i64 t.1.2.1) ∧ w'.cell? ⟨bl, off + a * 5 + 2, none⟩ = some (.int .u32 t.1.2.2) ∧ w'.cell? ⟨bl, off + a * 5 + 3, none⟩ = some (.int .i64 t.2.1) ∧ w'.cell? ⟨bl, off + a * 5 + 4, none⟩ = some (.int .i64 t.2.2) ∧ w'.cell? ⟨w.heap.size, 0, none⟩ = some (.int .i64 h.1) ∧ w'.cell? ⟨w.heap.size, 1, none⟩ = some (.int .i64 h.2.1) ∧ w'.cell? ⟨w.heap.size, 2, none⟩ = some (.int .u32 h.2.2)) V → (fun w' => w'.cell? ⟨ba, 3, none⟩ = some (.slice (some ⟨bl, off, none⟩) N cap) ∧ w'.cell? ⟨bl, off + a * 5, none⟩ = some (.int .i64 t.1.1) ∧ w'.cell? ⟨bl, off + a * 5 + 1, none⟩ = some (.int .i64 t.1.2.1) ∧ w'.cell? ⟨bl, off + a * 5 + 2, none⟩ = some (.int .u32 t.1.2.2) ∧ w'.cell? ⟨bl, off + a * 5 + 3, none⟩ = some (.int .i64 t.2.1) ∧ w'.cell? ⟨bl, off + a * 5 + 4, none⟩ = some (.int .i64 t.2.2) ∧ w'.cell? ⟨w.heap.size, 0, none⟩ = some (.int .i64 h.1) ∧ w'.cell? ⟨w.heap.size, 1, none⟩ = some (.int .i64 h.2.1) ∧ w'.cell? ⟨w.heap.size, 2, none⟩ = some (.int .u32 h.2.2)) w') := Lib.hid fun V w' hb h => ⟨bkeep hb h.1, bkeep hb h.2.1, bkeep hb h.2.2.1, bkeep hb h.2.2.2.1, bkeep hb h.2.2.2.2.1, bkeep hb h.2.2.2.2.2.1, bkeep hb h.2.2.2.2.2.2.1, bkeep hb h.2.2.2.2.2.2.2.1, bkeep hb h.2.2.2.2.2.2.2.2⟩
      clear kq kg kr hel ht hto htm i1 i2
      go_upto_region 5 with fail
      go_cut [8, 9] from 13 to 58 (fun s8 s9 wx => ∃ g8 : Nat, s8 = .pointer (some ⟨g8, 0, none⟩) ∧ s9 = .int .i64 RC ∧ wx.heap[g8]? = some (.cells #[.int .i64 R.1, .int .i64 R.2] 53 (0, 0)) ∧ Below W0.heap.size W0 wx ∧ W0.heap.size ≤ g8)
      case first =>
        (refine wp_region_held_drew (S := (fun w' => w'.cell? ⟨ba, 3, none⟩ = some (.slice (some ⟨bl, off, none⟩) N cap) ∧ w'.cell? ⟨bl, off + a * 5, none⟩ = some (.int .i64 t.1.1) ∧ w'.cell? ⟨bl, off + a * 5 + 1, none⟩ = some (.int .i64 t.1.2.1) ∧ w'.cell? ⟨bl, off + a * 5 + 2, none⟩ = some (.int .u32 t.1.2.2) ∧ w'.cell? ⟨bl, off + a * 5 + 3, none⟩ = some (.int .i64 t.2.1) ∧ w'.cell? ⟨bl, off + a * 5 + 4, none⟩ = some (.int .i64 t.2.2) ∧ w'.cell? ⟨w.heap.size, 0, none⟩ = some (.int .i64 h.1) ∧ w'.cell? ⟨w.heap.size, 1, none⟩ = some (.int .i64 h.2.1) ∧ w'.cell? ⟨w.heap.size, 2, none⟩ = some (.int .u32 h.2.2))) (by kernel_rfl) ?_ (fun hHeld => ?_); (focus (first | exact hS | (simp [*, go_sem]; done) | fail)); refine rt 0 (some 23) (v := ?_) rfl rfl ?_ ?_; rotate_left; (focus (intro w' hSw; (try dsimp only at hSw); go_simp; (try with_reducible rfl))); (try simp only [Act.put, nA, nB, nC]); refine rt 1 (some 24) (v := ?_) rfl rfl ?_ ?_; rotate_left; (focus (intro w' hSw; (try dsimp only at hSw); go_simp; (try with_reducible rfl))); (try simp only [Act.put, nA, nB, nC]); refine rt 2 (some 25) (v := ?_) rfl rfl ?_ ?_; rotate_left; (focus (intro w' hSw; (try dsimp only at hSw); go_simp; (try with_reducible rfl))); (try simp only [Act.put, nA, nB, nC]); refine rt 3 (some 26) (v := ?_) rfl rfl ?_ ?_; rotate_left; (focus (intro w' hSw; (try dsimp only at hSw); go_simp; (try with_reducible rfl))); (try simp only [Act.put, nA, nB, nC]); refine rt 4 (some 27) (v := ?_) rfl rfl ?_ ?_; rotate_left; (focus (intro w' hSw; (try dsimp only at hSw); go_simp; (try with_reducible rfl))); (try simp only [Act.put, nA, nB, nC]); refine rt 5 (some 28) (v := ?_) rfl rfl ?_ ?_; rotate_left; (focus (intro w' hSw; (try dsimp only at hSw); go_simp; (try with_reducible rfl))); (try simp only [Act.put, nA, nB, nC]); refine rt 6 (some 29) (v := ?_) rfl rfl ?_ ?_; rotate_left; (focus (intro w' hSw; (try dsimp only at hSw); go_simp; (try with_reducible rfl))); (try simp only [Act.put, nA, nB, nC]); refine rt 7 (some 30) (v := ?_) rfl rfl ?_ ?_; rotate_left; (focus (intro w' hSw; (try dsimp only at hSw); go_simp; (try with_reducible rfl))); (try simp only [Act.put, nA, nB, nC]); refine rt 8 (some 31) (v := ?_) rfl rfl ?_ ?_; rotate_left; (focus (intro w' hSw; (try dsimp only at hSw); go_simp; (try with_reducible rfl))); (try simp only [Act.put, nA, nB, nC]); refine rt 10 (some 33) (v := ?_) rfl rfl ?_ ?_; rotate_left; (focus (intro w' hSw; (try dsimp only at hSw); go_simp; (try with_reducible rfl))); (try simp only [Act.put, nA, nB, nC]); refine rt 11 (some 34) (v := ?_) rfl rfl ?_ ?_; rotate_left; (focus (intro w' hSw; (try dsimp only at hSw); go_simp; (try with_reducible rfl))); (try simp only [Act.put, nA, nB, nC]); refine rt 12 (some 35) (v := ?_) rfl rfl ?_ ?_; rotate_left; (focus (intro w' hSw; (try dsimp only at hSw); go_simp; (try with_reducible rfl))); (try simp only [Act.put, nA, nB, nC]); refine rt 13 (some 36) (v := ?_) rfl rfl ?_ ?_; rotate_left; (focus (intro w' hSw; (try dsimp only at hSw); go_simp; (try with_reducible rfl))); (try simp only [Act.put, nA, nB, nC]); refine rt 14 (some 37) (v := ?_) rfl rfl ?_ ?_; rotate_left; (focus (intro w' hSw; (try dsimp only at hSw); go_simp; (try with_reducible rfl))); (try simp only [Act.put, nA, nB, nC]); refine rt 15 (some 38) (v := ?_) rfl rfl ?_ ?_; rotate_left; (focus (intro w' hSw; (try dsimp only at hSw); go_simp; (try with_reducible rfl))); (try simp only [Act.put, nA, nB, nC]); refine rt 16 (some 39) (v := ?_) rfl rfl ?_ ?_; rotate_left; (focus (intro w' hSw; (try dsimp only at hSw); go_simp; (try with_reducible rfl))); (try simp only [Act.put, nA, nB, nC]); refine rt 17 (some 40) (v := ?_) rfl rfl ?_ ?_; rotate_left; (focus (intro w' hSw; (try dsimp only at hSw); go_simp; (try with_reducible rfl))); (try simp only [Act.put, nA, nB, nC]); refine wpAnyH_ready (rs := [9, 22]) (by kernel_rfl) (by simp) ?_; refine AllReadyH.cons rfl (fun K hK => ?_) (AllReadyH.cons rfl (fun K hK => ?_) AllReadyH.nil); (focus (go_simp; (go_at_call 147; refine Calls.mono (HC.out _) ?_; rintro e0 w3 ⟨rfl, hb⟩; have hS := HKP.out _ _ hb hHeld; have HB3 := Lib.hid (show Below W0.heap.size W0 w3 from Below.trans belA (hb.mono (by first | omega | (simp <;> omega)))); (try (have kq := bblk hb (blklt kp) kp; clear kp; have kp := kq; clear kq)); have hz3 := HB3.out.size; clear hb); go_wp2_with fail; refine hK.out _ _ ?_ (fun hHeld => ?_); (focus (first | exact hS | (simp [*, go_sem]; done) | fail)); clear hK K; (try simp only [Act.put, nA, nB, nC]); refine wpAnyH_ready (rs := [18, 22]) (by kernel_rfl) (by simp) ?_; refine AllReadyH.cons rfl (fun K hK => ?_) (AllReadyH.cons rfl (fun K hK => ?_) AllReadyH.nil); (focus (go_simp; (go_at_call 95; refine Calls.mono (rmul_any X t.2 _ HI1.out HI2.out) ?_; rw [hR.out, hRC.out]; rintro e0 w4 ⟨rfl, hb⟩; have hS := HKP.out _ _ hb hHeld; have hb3 := HB3.out; have HB4 := Lib.hid (show Below W0.heap.size W0 w4 from Below.trans belA (hb.mono (by have := hb3.size; simp <;> omega))); (try (have kq := bblk hb (blklt kp) kp; clear kp; have kp := kq; clear kq; obtain ⟨pz0, pz1, pf0, pf1⟩ := blk2 kp; have pzz := blklt kp)); have hz4 := HB4.out.size; have y41 : ba < w4.heap.size := (by omega); have y42 : bl < w4.heap.size := (by omega); have y43 : w.heap.size < w4.heap.size := (by omega); clear hb hb3); go_wp2_with fail; refine hK.out _ _ ?_ (fun hHeld => ?_); (focus (first | exact hS | (simp [*, go_sem]; done) | fail)); clear hK K; (try simp only [Act.put, nA, nB, nC]); refine rt 19 (some 22) (v := ?_) rfl rfl ?_ ?_; rotate_left; (focus (intro w' hSw; (try dsimp only at hSw); go_simp; (try with_reducible rfl))); (try simp only [Act.put, nA, nB, nC]); refine rt 20 (some 42) (v := ?_) rfl rfl ?_ ?_; rotate_left; (focus (intro w' hSw; (try dsimp only at hSw); go_simp; (try with_reducible rfl))); (try simp only [Act.put, nA, nB, nC]); refine rt 21 (some 43) (v := ?_) rfl rfl ?_ ?_; rotate_left; (focus (intro w' hSw; (try dsimp only at hSw); go_simp; (try with_reducible rfl))); (try simp only [Act.put, nA, nB, nC]); refine wpAnyH_ready (rs := [22]) (by kernel_rfl) (by simp) ?_; refine AllReadyH.cons rfl (fun K hK => ?_) AllReadyH.nil; (try go_simp); refine hK.out _ _ ?_ (fun hHeld => ?_); (focus (first | exact hS | (simp [*, go_sem]; done) | fail)); clear hK K; (try simp only [Act.put, nA, nB, nC]); refine wpAnyH_ready (rs := [23]) (by kernel_rfl) (by simp) ?_; refine AllReadyH.cons rfl (fun K hK => ?_) AllReadyH.nil; (try go_simp); refine hK.out _ _ ?_ (fun hHeld => ?_); (focus (first | exact hS | (simp [*, go_sem]; done) | fail)); clear hK K; (try simp only [Act.put, nA, nB, nC]); refine rt 24 (some 9) (v := ?_) rfl rfl ?_ ?_; rotate_left; (focus (intro w' hSw; (try dsimp only at hSw); go_simp; (try with_reducible rfl))); (try simp only [Act.put, nA, nB, nC]); refine wpAnyH_done (by kernel_rfl) ?_ _)); rotate_left 1; (focus (((try go_simp); have hS := HKP.out _ _ (bal (Below.refl w3.heap.size w3) (.cells #[.int .i64 0, .int .i64 0] 53)) hHeld; have kp : (w3.alloc (.cells #[.int .i64 0, .int .i64 0] 53)).heap[w3.heap.size]? = _ := blknew w3 _; have hnb : W0.heap.size ≤ w3.heap.size := hz3); refine hK.out _ _ ?_ (fun hHeld => ?_); (focus (first | exact hS | (simp [*, go_sem]; done) | fail)); clear hK K; (try simp only [Act.put, nA, nB, nC]); refine wpAnyH_ready (rs := [18]) (by kernel_rfl) (by simp) ?_; refine AllReadyH.cons rfl (fun K hK => ?_) AllReadyH.nil; go_simp; (go_at_call 95; refine Calls.mono (rmul_any X t.2 _ HI1.out HI2.out) ?_; rw [hR.out, hRC.out]; rintro e0 w4 ⟨rfl, hb⟩; have hS := HKP.out _ _ hb hHeld; have hb3 := HB3.out; have HB4 := Lib.hid (show Below W0.heap.size W0 w4 from Below.trans belA (hb.mono (by have := hb3.size; simp <;> omega))); (try (have kq := bblk hb (blklt kp) kp; clear kp; have kp := kq; clear kq; obtain ⟨pz0, pz1, pf0, pf1⟩ := blk2 kp; have pzz := blklt kp)); have hz4 := HB4.out.size; have y41 : ba < w4.heap.size := (by omega); have y42 : bl < w4.heap.size := (by omega); have y43 : w.heap.size < w4.heap.size := (by omega); clear hb hb3); go_wp2_with fail; refine hK.out _ _ ?_ (fun hHeld => ?_); (focus (first | exact hS | (simp [*, go_sem]; done) | fail)); clear hK K; (try simp only [Act.put, nA, nB, nC]); refine rt 19 (some 22) (v := ?_) rfl rfl ?_ ?_; rotate_left; (focus (intro w' hSw; (try dsimp only at hSw); go_simp; (try with_reducible rfl))); (try simp only [Act.put, nA, nB, nC]); refine rt 20 (some 42) (v := ?_) rfl rfl ?_ ?_; rotate_left; (focus (intro w' hSw; (try dsimp only at hSw); go_simp; (try with_reducible rfl))); (try simp only [Act.put, nA, nB, nC]); refine rt 21 (some 43) (v := ?_) rfl rfl ?_ ?_; rotate_left; (focus (intro w' hSw; (try dsimp only at hSw); go_simp; (try with_reducible rfl))); (try simp only [Act.put, nA, nB, nC]); refine wpAnyH_ready (rs := [23]) (by kernel_rfl) (by simp) ?_; refine AllReadyH.cons rfl (fun K hK => ?_) AllReadyH.nil; (try go_simp); refine hK.out _ _ ?_ (fun hHeld => ?_); (focus (first | exact hS | (simp [*, go_sem]; done) | fail)); clear hK K; (try simp only [Act.put, nA, nB, nC]); refine rt 24 (some 9) (v := ?_) rfl rfl ?_ ?_; rotate_left; (focus (intro w' hSw; (try dsimp only at hSw); go_simp; (try with_reducible rfl))); (try simp only [Act.put, nA, nB, nC]); refine wpAnyH_done (by kernel_rfl) ?_ _)); rotate_left 1)); rotate_left 2; (focus (((try go_simp); have hS := HKP.out _ _ (bal (Below.refl W0.drew.heap.size W0.drew) (.cells #[.int .i64 0, .int .i64 0] 53)) hHeld; have kp : (W0.drew.alloc (.cells #[.int .i64 0, .int .i64 0] 53)).heap[W0.heap.size]? = _ := blknew W0.drew _; have hnb : W0.heap.size ≤ W0.heap.size := Nat.le_refl _); refine hK.out _ _ ?_ (fun hHeld => ?_); (focus (first | exact hS | (simp [*, go_sem]; done) | fail)); clear hK K; (try simp only [Act.put, nA, nB, nC]); refine wpAnyH_ready (rs := [9]) (by kernel_rfl) (by simp) ?_; refine AllReadyH.cons rfl (fun K hK => ?_) AllReadyH.nil; go_simp; (go_at_call 147; refine Calls.mono (HC.out _) ?_; rintro e0 w3 ⟨rfl, hb⟩; have hS := HKP.out _ _ hb hHeld; have HB3 := Lib.hid (show Below W0.heap.size W0 w3 from Below.trans belA (hb.mono (by first | omega | (simp <;> omega)))); (try (have kq := bblk hb (blklt kp) kp; clear kp; have kp := kq; clear kq)); have hz3 := HB3.out.size; clear hb); go_wp2_with fail; refine hK.out _ _ ?_ (fun hHeld => ?_); (focus (first | exact hS | (simp [*, go_sem]; done) | fail)); clear hK K; (try simp only [Act.put, nA, nB, nC]); refine wpAnyH_ready (rs := [18]) (by kernel_rfl) (by simp) ?_; refine AllReadyH.cons rfl (fun K hK => ?_) AllReadyH.nil; go_simp; (go_at_call 95; refine Calls.mono (rmul_any X t.2 _ HI1.out HI2.out) ?_; rw [hR.out, hRC.out]; rintro e0 w4 ⟨rfl, hb⟩; have hS := HKP.out _ _ hb hHeld; have hb3 := HB3.out; have HB4 := Lib.hid (show Below W0.heap.size W0 w4 from Below.trans belA (hb.mono (by have := hb3.size; simp <;> omega))); (try (have kq := bblk hb (blklt kp) kp; clear kp; have kp := kq; clear kq; obtain ⟨pz0, pz1, pf0, pf1⟩ := blk2 kp; have pzz := blklt kp)); have hz4 := HB4.out.size; have y41 : ba < w4.heap.size := (by omega); have y42 : bl < w4.heap.size := (by omega); have y43 : w.heap.size < w4.heap.size := (by omega); clear hb hb3); go_wp2_with fail; refine hK.out _ _ ?_ (fun hHeld => ?_); (focus (first | exact hS | (simp [*, go_sem]; done) | fail)); clear hK K; (try simp only [Act.put, nA, nB, nC]); refine rt 19 (some 22) (v := ?_) rfl rfl ?_ ?_; rotate_left; (focus (intro w' hSw; (try dsimp only at hSw); go_simp; (try with_reducible rfl))); (try simp only [Act.put, nA, nB, nC]); refine rt 20 (some 42) (v := ?_) rfl rfl ?_ ?_; rotate_left; (focus (intro w' hSw; (try dsimp only at hSw); go_simp; (try with_reducible rfl))); (try simp only [Act.put, nA, nB, nC]); refine rt 21 (some 43) (v := ?_) rfl rfl ?_ ?_; rotate_left; (focus (intro w' hSw; (try dsimp only at hSw); go_simp; (try with_reducible rfl))); (try simp only [Act.put, nA, nB, nC]); refine wpAnyH_ready (rs := [23]) (by kernel_rfl) (by simp) ?_; refine AllReadyH.cons rfl (fun K hK => ?_) AllReadyH.nil; (try go_simp); refine hK.out _ _ ?_ (fun hHeld => ?_); (focus (first | exact hS | (simp [*, go_sem]; done) | fail)); clear hK K; (try simp only [Act.put, nA, nB, nC]); refine rt 24 (some 9) (v := ?_) rfl rfl ?_ ?_; rotate_left; (focus (intro w' hSw; (try dsimp only at hSw); go_simp; (try with_reducible rfl))); (try simp only [Act.put, nA, nB, nC]); refine wpAnyH_done (by kernel_rfl) ?_ _)); rotate_left 1)
        all_goals
          clear hHeld
          have hb4 := HB4.out
          go_wp2_with fail
          go_meet
          exact ⟨_, rfl, rfl, blkA, belA, (by first | omega | (simp <;> omega))⟩
      case rest =>
        obtain ⟨g8, rfl, rfl, k8, hBx, hg8⟩ := hcut
        obtain ⟨w5, rfl⟩ : ∃ z, z = wc := ⟨_, rfl⟩
        have HB5 := Lib.hid hBx
        have hBw5 := hB.trans (hBx.mono hzB)
        have hz5 := hBx.size
        obtain ⟨u0, u1⟩ := blkc2 k8
        have y8 := blklt k8
        have kq := bblk hBx yq KQ.out
        have kr := bblk hBx yr KR.out
        obtain ⟨v0, v1⟩ := blkc2 kq
        obtain ⟨r0, r1, r2, r3⟩ := blk2 kr
        have yq5 := blklt kq
        have yr5 := blklt kr
        clear hBx k8 kq kr
        cases hm : mulO X t.2 with
        | none =>
          have hR0 : R = (0, 0) := by rw [← hR.out, hm]; rfl
          have hC0 : RC = 3 := by rw [← hRC.out, hm]; rfl
          have hr : Hid (vO D T = none) := Lib.hid (vO_none (by rw [hnx.out]; unfold dotS; rw [hm]; rfl))
          subst hR0
          subst hC0
          clear hm
          go_wp2_with fail
          exact bodyPost_ret (v := .tuple #[.agg #[.int .i64 0, .int .i64 0], .int .i64 3]) (by simp [results, Tryz.results79, go_sem, *]) rfl ⟨by rw [hr.out]; rfl, belA⟩
        | some mm =>
          have hR0 : R = mm := by rw [← hR.out, hm]; rfl
          have hC0 : RC = 0 := by rw [← hRC.out, hm]; rfl
          have hmi : Hid (inF mm) := Lib.hid (mulO_in HI1.out.2.2.1 HI2.out.2.2.1 hm)
          have hnx2 : Hid (vO D (T.take (a + 1)) = addO d mm) := Lib.hid (by rw [hnx.out]; unfold dotS; rw [hm]; rfl)
          subst hR0
          subst hC0
          clear hm
          have HAD : Hid (∀ w, Calls Tryz.prog 97 #[.agg #[.int .i64 d.1, .int .i64 d.2], .agg #[.int .i64 R.1, .int .i64 R.2]] w fun e w' => e = .returned (.tuple #[.agg #[.int .i64 (rD (addO d R)).1, .int .i64 (rD (addO d R)).2], .int .i64 (rC (addO d R))]) ∧ Below w.heap.size w w') := Lib.hid fun w => radd_any d R w hd.out hmi.out
          cases hm : addO d R with
          | none =>
            have hr : Hid (vO D T = none) := Lib.hid (vO_none (by rw [hnx2.out, hm]))
            have HAD2 : Hid (∀ w, Calls Tryz.prog 97 #[.agg #[.int .i64 d.1, .int .i64 d.2], .agg #[.int .i64 R.1, .int .i64 R.2]] w fun e w' => e = .returned (.tuple #[.agg #[.int .i64 0, .int .i64 0], .int .i64 3]) ∧ Below w.heap.size w w') := Lib.hid fun w => by have := HAD.out w; rw [hm] at this; exact this
            clear hm HAD
            go_wp2_with fail
            refine Calls.mono (HAD2.out _) ?_
            rintro e0 w6 ⟨rfl, hb⟩
            have HB6 := Lib.hid (Below.trans hBw5 (hb.mono (by omega)))
            have kr := (hb.block (w.heap.size + 1) yr5).trans (bblk HB5.out yr KR.out)
            obtain ⟨t0, t1, t2, t3⟩ := blk2 kr
            have yt := blklt kr
            have hb6 := HB6.out
            clear hb kr
            go_wp2_with fail
            exact bodyPost_ret (v := .tuple #[.agg #[.int .i64 0, .int .i64 0], .int .i64 3]) (by simp [results, Tryz.results79, go_sem, *]) rfl ⟨by rw [hr.out]; rfl, belA⟩
          | some d' =>
            have hdi : Hid (inF d') := Lib.hid (addO_in hd.out.2.2.1 hmi.out.2.2.1 hm)
            have hnx3 : Hid (vO D (T.take (a + 1)) = some d') := Lib.hid (by rw [hnx2.out, hm])
            have HAD2 : Hid (∀ w, Calls Tryz.prog 97 #[.agg #[.int .i64 d.1, .int .i64 d.2], .agg #[.int .i64 R.1, .int .i64 R.2]] w fun e w' => e = .returned (.tuple #[.agg #[.int .i64 d'.1, .int .i64 d'.2], .int .i64 0]) ∧ Below w.heap.size w w') := Lib.hid fun w => by have := HAD.out w; rw [hm] at this; exact this
            clear hm HAD
            go_wp2_with fail
            refine Calls.mono (HAD2.out _) ?_
            rintro e0 w6 ⟨rfl, hb⟩
            have HB6 := Lib.hid (Below.trans HB5.out (hb.mono hz5))
            have kq := bblk HB6.out yq KQ.out
            obtain ⟨t0, t1, t2, t3⟩ := blk2 kq
            have yt := blklt kq
            have KQ6 := Lib.hid kq
            have hz6 := HB6.out.size
            clear hb kq
            go_wp2_with fail
            go_roundw
            case rel =>
              have hb6 := HB6.out
              exact ⟨a + 1, d', by omega, by go_num, hnx3, hdi, blkal (blkset2 (bblk hb6 yq KQ.out) _ _) _, blkal (blkset (blkset (bblk hb6 yg KG.out) (by show w.heap.size ≠ q; omega) _) (by show w.heap.size ≠ q; omega) _) _, blkal (blkset (blkset (bblk hb6 yr KR.out) (by show w.heap.size + 1 ≠ q; omega) _) (by show w.heap.size + 1 ≠ q; omega) _) _, bal (Below.setCell (Below.setCell (hB.trans (hb6.mono hzB)) (by show w.heap.size ≤ q; omega) _) (by show w.heap.size ≤ q; omega) _) _⟩
            case measure => simp [intOf]; omega
    · have ee : a = N := by omega
      subst ee
      have hfin : Hid (vO D T = some d) := Lib.hid (by have := hI.out; rw [← hN.out, List.take_length] at this; exact this)
      obtain ⟨r0, r1, r2, r3⟩ := blk2 kr
      clear kq kg kr
      go_wp2_with fail
      exact bodyPost_ret (v := .tuple #[.agg #[.int .i64 d.1, .int .i64 d.2], .int .i64 0]) (by simp [results, Tryz.results79, go_sem, *]) rfl ⟨by rw [hfin.out]; rfl, belA⟩
end Go.Proofs.YtpcjinbbgnmchaaGreat

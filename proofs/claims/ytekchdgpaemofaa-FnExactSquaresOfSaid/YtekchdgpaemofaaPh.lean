/- spec.SquaresOf, spec.IsPositive, spec.RankOf. -/
import Derived.Test.YtekchdgpaemofaaPg
import Derived.Test.YtekchdgpaemofaaPt
namespace Go.Proofs.Ytekchdgpaemofaa
open Go.ChangeShapes Go.WideShapes Go.ChangeAt Go.RowKit
set_option linter.unusedVariables false
set_option linter.unusedSimpArgs false
attribute [local irreducible] Calls
theorem pw_rows (S : Nat → Nat → Int × Int) (n : Nat) : rowL n (fun k => pwS S k k k) = rowL n (fun k => pvS S k k k) ∧ matL n n (fun k => pvX (pwS S k) k) = matL n n (fun k => pvX (pvS S k) k) := by
  refine ⟨?_, ?_⟩
  · unfold rowL
    exact List.map_congr_left fun k _ => pw_agr S k k k (Nat.le_refl _) (Nat.le_refl _)
  · unfold matL rowL
    exact List.map_congr_left fun k _ => List.map_congr_left fun i _ => (pw_agr S k).x i
/-- What the steps of a valid matrix told, in the words of both sides. -/
theorem l02Pivot_sq (w V : World) (xss : List (List (Int × Int))) (n cap : Nat) (A : Option Addr) (hv : matOk xss = true) (hn : xss.length = n) (h : Lst (shL shFr) w xss (.slice A n cap)) (hV : Below w.heap.size w V) :
    Calls Try.prog 42 #[.slice A n cap] V fun e w' => ∃ (b : Nat) (C c2 en : Int) (vP vR vS : Value) (Ps : List (Int × Int)) (Rs : List (List (Int × Int))) (FR : List Nat), e = .returned (.tuple #[.pointer (some ⟨b, 0, none⟩), .int .i64 C]) ∧ w'.heap[b]? = some (.cells #[vP, vR, vS, .int .i64 c2, .int .i64 en] 77 (0, 0)) ∧ PRs V.heap.size b w' Ps Rs vP vR FR ∧ Below V.heap.size V w' ∧
      ((sqC xss = 0 ∧ C = 0 ∧ en = 0 ∧ Ps = sqP xss ∧ Rs = sqR xss) ∨ (sqC xss = 3 ∧ C = 3) ∨ (sqC xss = 4 ∧ C = 0 ∧ en ≠ 0)) := by
  have hM := SqM.of hv
  have hC : sqC xss = pvC (pwS (at2 xss)) n n 0 := by
    rw [pvC_same, ← hn]
    simp [sqC, hv]
  refine (l02Pivot_any V n cap (at2 xss) A (by rw [← hn]; exact hM.1) (by rw [← hn, mat_self hM]; rw [← hn] at h; exact h.below hV) (by rw [← hn]; exact fun i hi j hj => mat_in hM hi hj)).mono ?_
  rintro e w' ⟨b, C, c2, en, vP, vR, vS, Ps, Rs, FR, he, h1, h2, h3, h4⟩
  refine ⟨b, C, c2, en, vP, vR, vS, Ps, Rs, FR, he, h1, h2, h3, ?_⟩
  rw [hC]
  rcases h4 with ⟨a1, a2, a3, a4, a5⟩ | h4 | h4
  · refine .inl ⟨a1, a2, a3, ?_, ?_⟩
    · unfold sqP
      rw [if_pos (hC.trans a1), hn, a4]
      exact (pw_rows _ _).1
    · unfold sqR
      rw [if_pos (hC.trans a1), hn, a5]
      exact (pw_rows _ _).2
  · exact .inr (.inl h4)
  · exact .inr (.inr h4)
set_option maxHeartbeats 1000000 in
theorem sSquaresOf_any (w : World) (xss : List (List (Int × Int))) (v : Value) (h : Lst (shL shFr) w xss v) : Calls Try.prog 15 #[v] w (SqRet w (sqP xss) (sqR xss) (sqC xss)) := by
  obtain ⟨A0, cap0, rfl, hc0, hm0⟩ := formFrSS h
  unfold maxLen at hm0
  cases hv : matOk xss
  · have e1 : sqC xss = 1 := by simp [sqC, hv]
    obtain ⟨e2, e3⟩ := sq_no e1 (by decide)
    rw [e1, e2, e3]
    go_enter Try.func15, Try.ntmps15
    go_wp2_with (first | (go_at_call 41; refine Calls.mono (l02Matrix_any _ xss _ (h.below belA)) ?_; rintro e w1 ⟨rfl, hb⟩; obtain ⟨X, m, rfl⟩ := plsOf hb; clear hb))
    exact bodyPost_ret (v := .tuple #[.slice (some ⟨_, 0, none⟩) 0 0, .slice (some ⟨_, 0, none⟩) 0 0, .int .i64 1]) (by simp [results, Try.results15, go_sem]; exact ⟨rfl, rfl⟩) rfl (SqRet.nil belA)
  · obtain ⟨n, hn⟩ : ∃ n, xss.length = n := ⟨_, rfl⟩
    have HV : Hid (∀ V, Below w.heap.size w V → Calls Try.prog 41 #[.slice A0 n cap0] V fun e w' => e = .returned (.bool true) ∧ Below V.heap.size V w') := Lib.hid fun V hV => by
      have := l02Matrix_any V xss _ (h.below hV)
      rw [hv, hn] at this
      exact this
    rw [hn] at hc0 h
    have HPV := Lib.hid (fun V hV => l02Pivot_sq w V xss n cap0 A0 hv hn h hV)
    clear h
    go_enter Try.func15, Try.ntmps15
    go_wp2_with fail
    refine Calls.mono (HV.out _ belA) ?_
    rintro e0 w1 ⟨rfl, hb⟩
    have HB1 := Lib.hid (show Below w.heap.size w w1 from Below.trans belA (hb.mono (by first | omega | (simp <;> omega))))
    clear hb
    go_wp2_with fail
    refine Calls.mono (HPV.out _ HB1.out) ?_
    rintro e0 w2 ⟨b, C, c2, en, vP, vR, vS, Ps, Rs, FR, rfl, h1, h2, h3, hR⟩
    have hsz := HB1.out.size
    have H2 := Lib.hid (h2.mono hsz)
    have HB2 := Lib.hid (HB1.out.trans (Below.mono h3 hsz))
    have HR := Lib.hid hR
    obtain ⟨⟨c0, c1, _, _, c4⟩, _⟩ := blk5p h1
    have zb := blklt h1
    clear h1 h2 h3 hR
    rcases HR.out with ⟨e1, rfl, rfl, e2, e3⟩ | ⟨e1, rfl⟩ | ⟨e1, rfl, hen⟩
    · have E1 := Lib.hid e1
      have E2 := Lib.hid e2
      have E3 := Lib.hid e3
      obtain ⟨A1, cp1, A2, cp2, rfl, rfl, hS⟩ := H2.out.two (c := 0) HB2.out
      have HS := Lib.hid hS
      obtain ⟨n1, hn1⟩ : ∃ n1, Ps.length = n1 := ⟨_, rfl⟩
      obtain ⟨n2, hn2⟩ : ∃ n2, Rs.length = n2 := ⟨_, rfl⟩
      rw [hn1] at c0 HS
      rw [hn2] at c1 HS
      clear hn1 hn2 hS e1 e2 e3
      go_wp2_with fail
      (refine wp_region_held_drew (S := (fun w' => w'.cell? ⟨b, 0, none⟩ = some (.slice A1 n1 cp1) ∧ w'.cell? ⟨b, 1, none⟩ = some (.slice A2 n2 cp2))) (by kernel_rfl) ?_ (fun hHeld => ?_); (focus (first | exact hS | (simp [*, go_sem]; done) | fail)); refine rt 0 (some 31) (v := ?_) rfl rfl ?_ ?_; rotate_left; (focus (intro w' hSw; (try dsimp only at hSw); go_simp; (try with_reducible rfl))); (try simp only [Act.put, nA, nB, nC]); refine rt 1 (some 32) (v := ?_) rfl rfl ?_ ?_; rotate_left; (focus (intro w' hSw; (try dsimp only at hSw); go_simp; (try with_reducible rfl))); (try simp only [Act.put, nA, nB, nC]); refine rt 2 (some 33) (v := ?_) rfl rfl ?_ ?_; rotate_left; (focus (intro w' hSw; (try dsimp only at hSw); go_simp; (try with_reducible rfl))); (try simp only [Act.put, nA, nB, nC]); refine rt 3 (some 34) (v := ?_) rfl rfl ?_ ?_; rotate_left; (focus (intro w' hSw; (try dsimp only at hSw); go_simp; (try with_reducible rfl))); (try simp only [Act.put, nA, nB, nC]); refine rt 4 (some 35) (v := ?_) rfl rfl ?_ ?_; rotate_left; (focus (intro w' hSw; (try dsimp only at hSw); go_simp; (try with_reducible rfl))); (try simp only [Act.put, nA, nB, nC]); refine rt 5 (some 36) (v := ?_) rfl rfl ?_ ?_; rotate_left; (focus (intro w' hSw; (try dsimp only at hSw); go_simp; (try with_reducible rfl))); (try simp only [Act.put, nA, nB, nC]); refine rt 6 (some 37) (v := ?_) rfl rfl ?_ ?_; rotate_left; (focus (intro w' hSw; (try dsimp only at hSw); go_simp; (try with_reducible rfl))); (try simp only [Act.put, nA, nB, nC]); refine rt 7 (some 38) (v := ?_) rfl rfl ?_ ?_; rotate_left; (focus (intro w' hSw; (try dsimp only at hSw); go_simp; (try with_reducible rfl))); (try simp only [Act.put, nA, nB, nC]); refine rt 8 (some 2) (v := ?_) rfl rfl ?_ ?_; rotate_left; (focus (intro w' hSw; (try dsimp only at hSw); go_simp; (try with_reducible rfl))); (try simp only [Act.put, nA, nB, nC]); refine rt 9 (some 3) (v := ?_) rfl rfl ?_ ?_; rotate_left; (focus (intro w' hSw; (try dsimp only at hSw); go_simp; (try with_reducible rfl))); (try simp only [Act.put, nA, nB, nC]); refine rt 10 (some 4) (v := ?_) rfl rfl ?_ ?_; rotate_left; (focus (intro w' hSw; (try dsimp only at hSw); go_simp; (try with_reducible rfl))); (try simp only [Act.put, nA, nB, nC]); refine wpAnyH_done (by kernel_rfl) ?_ _)
      clear hHeld
      go_wp2_with fail
      refine bodyPost_ret (v := .tuple #[.slice A1 n1 cp1, .slice A2 n2 cp2, .int .i64 0]) (by simp [results, Try.results15, go_sem]) rfl ?_
      rw [E1.out, ← E2.out, ← E3.out]
      exact sqRet_drew HS.out
    · have E1 := Lib.hid e1
      have hb2 := HB2.out
      clear e1
      go_wp2_with fail
      refine bodyPost_ret (v := .tuple #[.slice (some ⟨_, 0, none⟩) 0 0, .slice (some ⟨_, 0, none⟩) 0 0, .int .i64 3]) (by simp [results, Try.results15, go_sem]; exact ⟨rfl, rfl⟩) rfl ?_
      obtain ⟨e5, e6⟩ := sq_no E1.out (by decide)
      rw [E1.out, e5, e6]
      exact SqRet.nil belA
    · have E1 := Lib.hid e1
      have hb2 := HB2.out
      have he1 : (en != 0) = true := by simp [hen]
      clear e1 hen
      go_wp2_with fail
      refine bodyPost_ret (v := .tuple #[.slice (some ⟨_, 0, none⟩) 0 0, .slice (some ⟨_, 0, none⟩) 0 0, .int .i64 4]) (by simp [results, Try.results15, go_sem]; exact ⟨rfl, rfl⟩) rfl ?_
      obtain ⟨e5, e6⟩ := sq_no E1.out (by decide)
      rw [E1.out, e5, e6]
      exact SqRet.nil belA
set_option maxHeartbeats 1000000 in
theorem sIsPositive_any (w : World) (xss : List (List (Int × Int))) (v : Value) (h : Lst (shL shFr) w xss v) : Calls Try.prog 9 #[v] w fun e w' => e = .returned (.tuple #[.bool (ipV xss), .int .i64 (ipC xss)]) ∧ Below w.heap.size w w' := by
  obtain ⟨C0, hC⟩ : ∃ C, Hid (sqC xss = C) := ⟨_, Lib.hid rfl⟩
  have hr : Hid (ipV xss = decide (C0 = 0) ∧ ipC xss = if C0 = 4 then 0 else C0) := Lib.hid (by unfold ipV ipC; rw [hC.out]; exact ⟨rfl, rfl⟩)
  rw [hr.out.1, hr.out.2]
  obtain ⟨A0, cap0, rfl, hc0, hm0⟩ := formFrSS h
  unfold maxLen at hm0
  cases hv : matOk xss
  · have e1 : sqC xss = 1 := by simp [sqC, hv]
    rw [hC.out] at e1
    subst e1
    go_enter Try.func9, Try.ntmps9
    go_wp2_with (first | (go_at_call 41; refine Calls.mono (l02Matrix_any _ xss _ (h.below belA)) ?_; rintro e w1 ⟨rfl, hb⟩; obtain ⟨X, m, rfl⟩ := plsOf hb; clear hb))
    exact bodyPost_ret (v := .tuple #[.bool false, .int .i64 1]) (by simp [results, Try.results9, go_sem]) rfl ⟨rfl, belA⟩
  · obtain ⟨n, hn⟩ : ∃ n, xss.length = n := ⟨_, rfl⟩
    have HV : Hid (∀ V, Below w.heap.size w V → Calls Try.prog 41 #[.slice A0 n cap0] V fun e w' => e = .returned (.bool true) ∧ Below V.heap.size V w') := Lib.hid fun V hV => by
      have := l02Matrix_any V xss _ (h.below hV)
      rw [hv, hn] at this
      exact this
    rw [hn] at hc0 h
    have HPV := Lib.hid (fun V hV => l02Pivot_sq w V xss n cap0 A0 hv hn h hV)
    rw [hC.out] at HPV
    clear h
    go_enter Try.func9, Try.ntmps9
    go_wp2_with fail
    refine Calls.mono (HV.out _ belA) ?_
    rintro e0 w1 ⟨rfl, hb⟩
    have HB1 := Lib.hid (show Below w.heap.size w w1 from Below.trans belA (hb.mono (by first | omega | (simp <;> omega))))
    clear hb
    go_wp2_with fail
    refine Calls.mono (HPV.out _ HB1.out) ?_
    rintro e0 w2 ⟨b, C, c2, en, vP, vR, vS, Ps, Rs, FR, rfl, h1, h2, h3, hR⟩
    have hsz := HB1.out.size
    have HB2 := Lib.hid (HB1.out.trans (Below.mono h3 hsz))
    have HR := Lib.hid hR
    obtain ⟨⟨c0, c1, _, _, c4⟩, _⟩ := blk5p h1
    have zb := blklt h1
    have hb2 := HB2.out
    clear h1 h2 h3 hR
    rcases HR.out with ⟨rfl, rfl, rfl, e2, e3⟩ | ⟨rfl, rfl⟩ | ⟨rfl, rfl, hen⟩
    · clear e2 e3
      go_wp2_with fail
      exact bodyPost_ret (v := .tuple #[.bool true, .int .i64 0]) (by simp [results, Try.results9, go_sem]) rfl ⟨rfl, belA⟩
    · go_wp2_with fail
      exact bodyPost_ret (v := .tuple #[.bool false, .int .i64 3]) (by simp [results, Try.results9, go_sem]) rfl ⟨rfl, belA⟩
    · have he1 : (en == 0) = false := by simp [hen]
      clear hen
      go_wp2_with fail
      exact bodyPost_ret (v := .tuple #[.bool false, .int .i64 0]) (by simp [results, Try.results9, go_sem]) rfl ⟨rfl, belA⟩
set_option maxHeartbeats 1000000 in
theorem sRankOf_any (w : World) (xss : List (List (Int × Int))) (v : Value) (h : Lst (shL shFr) w xss v) : Calls Try.prog 13 #[v] w fun e w' => e = .returned (.tuple #[.int .i64 (rkN (sqP xss)), .int .i64 (sqC xss)]) ∧ Below w.heap.size w w' := by
  have hl8 := sqP_len xss
  have hno : Hid (∀ c, sqC xss = c → c ≠ 0 → sqP xss = [] ∧ sqR xss = []) := Lib.hid fun c => sq_no
  obtain ⟨C, hC⟩ : ∃ C, Hid (sqC xss = C) := ⟨_, Lib.hid rfl⟩
  obtain ⟨PS, hPS⟩ : ∃ PS, Hid (sqP xss = PS) := ⟨_, Lib.hid rfl⟩
  have HSQ := Lib.hid (fun V (hV : Below w.heap.size w V) => sSquaresOf_any V xss v (h.below hV))
  have hno2 : Hid (C ≠ 0 → PS = []) := Lib.hid fun hc => by rw [← hPS.out]; exact (hno.out _ (hC.out) hc).1
  rw [hC.out, hPS.out] at HSQ ⊢
  rw [hPS.out] at hl8
  obtain ⟨A0, cap0, rfl, _, _⟩ := formFrSS h
  clear h hno
  go_enter Try.func13, Try.ntmps13
  go_wp2_with fail
  refine Calls.mono (HSQ.out _ belA) ?_
  rintro e0 w1 ⟨A, cap, A', cap', F, F', rfl, hO, _, _, hb⟩
  have HB1 := Lib.hid (show Below w.heap.size w w1 from Below.trans belA (hb.mono (by first | omega | (simp <;> omega))))
  have HO := Lib.hid hO.lst
  clear hb hO
  obtain ⟨N, hN⟩ : ∃ N, Hid (PS.length = N) := ⟨_, Lib.hid rfl⟩
  rw [hN.out] at HO hl8 ⊢
  by_cases hc : C = 0
  · have hc1 : (C != 0) = false := by simp [hc]
    subst hc
    go_wp2_with fail
    go_loopw [8, 7] (fun i m wr => ∃ (k : Nat), k ≤ N ∧ i = .int .i64 k ∧ m = .int .i64 (rkN (PS.take k)) ∧ Below w1.heap.size w1 wr) (fun i _ _ => N - (intOf i).toNat)
    case atStart => exact ⟨0, Nat.zero_le _, rfl, rfl, belA⟩
    case round =>
      obtain ⟨k, hk, rfl, rfl, hB⟩ := hrel
      have hz := hB.size
      by_cases hlt : k < N
      · have hk8 : (k : Int) < (N : Int) := by omega
        obtain ⟨A1, c1, e1, hc1, _, _, hel⟩ := lstFraction HO.out
        injection e1 with e1 _ e2
        subst e1
        subst e2
        rw [hN.out] at hc1 hel
        obtain ⟨bl, off, rfl, hel2⟩ := hel (by omega)
        obtain ⟨d, hd, _, x0, x1⟩ := hel2 k hlt
        have zb := World.block_lt_of_cell? _ _ x0
        simp only at zb
        have x0 := bkeep hB x0
        have x1 := bkeep hB x1
        have hst := Lib.hid (rkN_succ hd)
        have hcn : Hid (rkN (PS.take k) ≤ 8) := Lib.hid (by have : rkN (PS.take k) ≤ (PS.take k).length := List.countP_le_length; rw [List.length_take] at this; omega)
        obtain ⟨M, hM⟩ : ∃ M, Hid (rkN (PS.take k) = M) := ⟨_, Lib.hid rfl⟩
        rw [hM.out] at hst hcn ⊢
        have hm8 := hcn.out
        clear hd hel hel2
        cases hz0 : d.1 != 0
        · have hst2 : Hid (rkN (PS.take (k + 1)) = M) := Lib.hid (by rw [hst.out, hz0]; rfl)
          go_wp2_with fail
          go_roundw
          case rel => exact ⟨k + 1, by omega, by go_num, by rw [hst2.out], belA⟩
          case measure => simp [intOf]; omega
        · have hst2 : Hid (rkN (PS.take (k + 1)) = M + 1) := Lib.hid (by rw [hst.out, hz0]; rfl)
          go_wp2_with fail
          go_roundw
          case rel => exact ⟨k + 1, by omega, by go_num, by rw [hst2.out]; go_num, belA⟩
          case measure => simp [intOf]; omega
      · have e : k = N := by omega
        have hfin : Hid (rkN (PS.take k) = rkN PS) := Lib.hid (by rw [List.take_of_length_le (by rw [hN.out]; omega)])
        subst e
        obtain ⟨M, hM⟩ : ∃ M, Hid (rkN (PS.take k) = M) := ⟨_, Lib.hid rfl⟩
        have hME : Hid (M = rkN PS) := Lib.hid (by rw [← hM.out, hfin.out])
        rw [hM.out]
        have hb1 := HB1.out
        have hge : ¬ ((k : Int) < (k : Int)) := by omega
        clear hk hlt hl8 hz
        go_wp2_with fail
        exact bodyPost_ret (v := .tuple #[.int .i64 M, .int .i64 0]) (by simp [results, Try.results13, go_sem]) rfl ⟨by rw [hME.out], hb1.trans (hB.mono hb1.size)⟩
  · have hc1 : (C != 0) = true := by simp [hc]
    have hr : Hid (rkN PS = 0) := Lib.hid (by rw [hno2.out hc]; rfl)
    clear hc
    have hb1 := HB1.out
    go_wp2_with fail
    exact bodyPost_ret (v := .tuple #[.int .i64 0, .int .i64 C]) (by simp [results, Try.results13, go_sem]) rfl ⟨by rw [hr.out]; rfl, belA⟩
end Go.Proofs.Ytekchdgpaemofaa

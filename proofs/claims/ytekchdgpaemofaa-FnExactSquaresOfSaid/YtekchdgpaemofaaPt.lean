/- impl.SquaresOf, impl.IsPositive, impl.RankOf. -/
import Derived.Test.YtekchdgpaemofaaPo
namespace Go.Proofs.Ytekchdgpaemofaa
open Go.ChangeShapes Go.WideShapes Go.ChangeAt Go.RowKit
set_option linter.unusedVariables false
set_option linter.unusedSimpArgs false
attribute [local irreducible] Calls
theorem sq_no {xss : List (List (Int × Int))} {c : Int} (h : sqC xss = c) (hc : c ≠ 0) : sqP xss = [] ∧ sqR xss = [] := by
  unfold sqP sqR
  rw [h, if_neg hc, if_neg hc]
  exact ⟨rfl, rfl⟩
theorem sqRet_drew {w W : World} {xs : List (Int × Int)} {ys : List (List (Int × Int))} {c : Int} {e : Ending} (h : SqRet w xs ys c e W) : SqRet w xs ys c e W.drew := by
  obtain ⟨A, cap, A', cap', F, F', he, h1, h2, h3, h4⟩ := h
  have hb : Below W.heap.size W W.drew := bdrew1 (Below.refl _ _)
  exact ⟨A, cap, A', cap', F, F', he, h1.below (Nat.le_refl _) hb, h2.below (Nat.le_refl _) hb, h3, bdrew1 h4⟩
set_option maxHeartbeats 1000000 in
theorem SquaresOf_any (w : World) (xss : List (List (Int × Int))) (v : Value) (h : Lst (shL shFr) w xss v) : Calls Try.prog 16 #[v] w (SqRet w (sqP xss) (sqR xss) (sqC xss)) := by
  obtain ⟨A0, cap0, rfl, hc0, hm0⟩ := formFrSS h
  unfold maxLen at hm0
  cases hv : matOk xss
  · have e1 : sqC xss = 1 := by simp [sqC, hv]
    obtain ⟨e2, e3⟩ := sq_no e1 (by decide)
    rw [e1, e2, e3]
    go_enter Try.func16, Try.ntmps16
    go_wp2_with (first | (go_at_call 43; refine Calls.mono (ValidMatrix_any _ xss _ (h.below belA)) ?_; rintro e w1 ⟨rfl, hb⟩; obtain ⟨X, m, rfl⟩ := plsOf hb; clear hb))
    exact bodyPost_ret (v := .tuple #[.slice none 0 0, .slice none 0 0, .int .i64 1]) (by simp [results, Try.results16, go_sem]) rfl (SqRet.nil belA)
  · have hM := SqM.of hv
    have HIN := Lib.hid (fun i (hi : i < xss.length) j (hj : j < xss.length) => mat_in hM hi hj)
    have HM := Lib.hid hM
    have HC : Hid (sqC xss = pvC (pvS (at2 xss)) xss.length xss.length 0) := Lib.hid (by simp [sqC, hv])
    obtain ⟨n, hn⟩ : ∃ n, xss.length = n := ⟨_, rfl⟩
    have HPV : Hid (∀ V, Below w.heap.size w V → Calls Try.prog 44 #[.slice A0 n cap0] V (PvRet V.heap.size V n (at2 xss))) := Lib.hid fun V hV =>
      pivotsOf_any V n cap0 (at2 xss) A0 (by rw [← hn]; exact HM.out.1) (by rw [← hn, mat_self HM.out]; exact h.below hV) (by rw [← hn]; exact HIN.out)
    have HP1 : Hid (sqC xss = 0 → sqP xss = rowL n (fun k => pvS (at2 xss) k k k) ∧ sqR xss = matL n n (fun k => pvX (pvS (at2 xss) k) k)) := Lib.hid fun e => by
      unfold sqP sqR
      rw [if_pos e, if_pos e, hn]
      exact ⟨rfl, rfl⟩
    have HV : Hid (∀ V, Below w.heap.size w V → Calls Try.prog 43 #[.slice A0 n cap0] V fun e w' => e = .returned (.bool true) ∧ Below V.heap.size V w') := Lib.hid fun V hV => by
      have := ValidMatrix_any V xss _ (h.below hV)
      rw [hv, hn] at this
      exact this
    rw [hn] at HC hc0 h
    clear hM
    go_enter Try.func16, Try.ntmps16
    go_wp2_with fail
    refine Calls.mono (HV.out _ belA) ?_
    rintro e0 w1 ⟨rfl, hb⟩
    have HB1 := Lib.hid (show Below w.heap.size w w1 from Below.trans belA (hb.mono (by first | omega | (simp <;> omega))))
    clear hb
    go_wp2_with fail
    refine Calls.mono (HPV.out _ HB1.out) ?_
    rintro e0 w2 ⟨b, kk, G, E, Ps, Rs, rfl, hBb, hI, hkk, hR⟩
    obtain ⟨A, cap, vP, vR, FR, h1, h2, h3, h4⟩ := hI
    have H2 := Lib.hid h2
    have HB2 := Lib.hid (HB1.out.trans (Below.mono h4 HB1.out.size))
    have HR := Lib.hid hR
    obtain ⟨⟨c0, c1, c2, c3⟩, _⟩ := blk4p h1
    have zb := blklt h1
    clear h1 h2 h3 h4 hR
    rcases HR.out with ⟨e1, rfl, rfl, e2, e3⟩ | ⟨e1, rfl⟩ | ⟨e1, rfl, hlt⟩
    · have e4 := Lib.hid (HC.out.trans e1)
      have e56 := Lib.hid (HP1.out e4.out)
      have hge : ¬ ((kk : Int) < (kk : Int)) := by omega
      have hsz := HB1.out.size
      obtain ⟨A1, cp1, A2, cp2, rfl, rfl, hS⟩ := (H2.out.mono hsz).two (c := 0) HB2.out
      have HS := Lib.hid hS
      have HE2 := Lib.hid e2
      have HE3 := Lib.hid e3
      obtain ⟨n1, hn1⟩ : ∃ n1, Ps.length = n1 := ⟨_, rfl⟩
      obtain ⟨n2, hn2⟩ : ∃ n2, Rs.length = n2 := ⟨_, rfl⟩
      rw [hn1] at c2 HS
      rw [hn2] at c3 HS
      clear hn1 hn2 hS e1 HP1 e2 e3
      go_wp2_with fail
      (refine wp_region_held_drew (S := (fun w' => w'.cell? ⟨b, 2, none⟩ = some (.slice A1 n1 cp1) ∧ w'.cell? ⟨b, 3, none⟩ = some (.slice A2 n2 cp2))) (by kernel_rfl) ?_ (fun hHeld => ?_); (focus (first | exact hS | (simp [*, go_sem]; done) | fail)); refine rt 0 (some 26) (v := ?_) rfl rfl ?_ ?_; rotate_left; (focus (intro w' hSw; (try dsimp only at hSw); go_simp; (try with_reducible rfl))); (try simp only [Act.put, nA, nB, nC]); refine rt 1 (some 27) (v := ?_) rfl rfl ?_ ?_; rotate_left; (focus (intro w' hSw; (try dsimp only at hSw); go_simp; (try with_reducible rfl))); (try simp only [Act.put, nA, nB, nC]); refine rt 2 (some 28) (v := ?_) rfl rfl ?_ ?_; rotate_left; (focus (intro w' hSw; (try dsimp only at hSw); go_simp; (try with_reducible rfl))); (try simp only [Act.put, nA, nB, nC]); refine rt 3 (some 29) (v := ?_) rfl rfl ?_ ?_; rotate_left; (focus (intro w' hSw; (try dsimp only at hSw); go_simp; (try with_reducible rfl))); (try simp only [Act.put, nA, nB, nC]); refine rt 4 (some 30) (v := ?_) rfl rfl ?_ ?_; rotate_left; (focus (intro w' hSw; (try dsimp only at hSw); go_simp; (try with_reducible rfl))); (try simp only [Act.put, nA, nB, nC]); refine rt 5 (some 31) (v := ?_) rfl rfl ?_ ?_; rotate_left; (focus (intro w' hSw; (try dsimp only at hSw); go_simp; (try with_reducible rfl))); (try simp only [Act.put, nA, nB, nC]); refine rt 6 (some 32) (v := ?_) rfl rfl ?_ ?_; rotate_left; (focus (intro w' hSw; (try dsimp only at hSw); go_simp; (try with_reducible rfl))); (try simp only [Act.put, nA, nB, nC]); refine rt 7 (some 33) (v := ?_) rfl rfl ?_ ?_; rotate_left; (focus (intro w' hSw; (try dsimp only at hSw); go_simp; (try with_reducible rfl))); (try simp only [Act.put, nA, nB, nC]); refine rt 8 (some 2) (v := ?_) rfl rfl ?_ ?_; rotate_left; (focus (intro w' hSw; (try dsimp only at hSw); go_simp; (try with_reducible rfl))); (try simp only [Act.put, nA, nB, nC]); refine rt 9 (some 3) (v := ?_) rfl rfl ?_ ?_; rotate_left; (focus (intro w' hSw; (try dsimp only at hSw); go_simp; (try with_reducible rfl))); (try simp only [Act.put, nA, nB, nC]); refine rt 10 (some 4) (v := ?_) rfl rfl ?_ ?_; rotate_left; (focus (intro w' hSw; (try dsimp only at hSw); go_simp; (try with_reducible rfl))); (try simp only [Act.put, nA, nB, nC]); refine wpAnyH_done (by kernel_rfl) ?_ _)
      clear hHeld
      go_wp2_with fail
      refine bodyPost_ret (v := .tuple #[.slice A1 n1 cp1, .slice A2 n2 cp2, .int .i64 0]) (by simp [results, Try.results16, go_sem]) rfl ?_
      rw [e4.out, e56.out.1, e56.out.2, ← HE2.out, ← HE3.out]
      exact sqRet_drew HS.out
    · have e4 := Lib.hid (HC.out.trans e1)
      clear e1 HP1
      go_wp2_with fail
      refine bodyPost_ret (v := .tuple #[.slice none 0 0, .slice none 0 0, .int .i64 3]) (by simp [results, Try.results16, go_sem]) rfl ?_
      obtain ⟨e5, e6⟩ := sq_no e4.out (by decide)
      rw [e4.out, e5, e6]
      exact SqRet.nil HB2.out
    · have e4 := Lib.hid (HC.out.trans e1)
      have hlt1 : (kk : Int) < (n : Int) := by omega
      clear e1 HP1
      go_wp2_with fail
      refine bodyPost_ret (v := .tuple #[.slice none 0 0, .slice none 0 0, .int .i64 4]) (by simp [results, Try.results16, go_sem]) rfl ?_
      obtain ⟨e5, e6⟩ := sq_no e4.out (by decide)
      rw [e4.out, e5, e6]
      exact SqRet.nil HB2.out
/-- Whether a matrix is positive; its rank. -/
def ipC (xss : List (List (Int × Int))) : Int := if sqC xss = 4 then 0 else sqC xss
def ipV (xss : List (List (Int × Int))) : Bool := decide (sqC xss = 0)
theorem sqC_or (xss : List (List (Int × Int))) : sqC xss = 0 ∨ sqC xss = 1 ∨ sqC xss = 3 ∨ sqC xss = 4 := by
  unfold sqC
  split
  · rcases pvC_or (pvS (at2 xss)) xss.length xss.length 0 with h | h | h
    · exact .inl h
    · exact .inr (.inr (.inl h))
    · exact .inr (.inr (.inr h))
  · exact .inr (.inl rfl)
theorem IsPositive_any (w : World) (xss : List (List (Int × Int))) (v : Value) (h : Lst (shL shFr) w xss v) : Calls Try.prog 11 #[v] w fun e w' => e = .returned (.tuple #[.bool (ipV xss), .int .i64 (ipC xss)]) ∧ Below w.heap.size w w' := by
  obtain ⟨C, hC⟩ : ∃ C, Hid (sqC xss = C) := ⟨_, Lib.hid rfl⟩
  have hor := sqC_or xss
  rw [hC.out] at hor
  have hr : Hid (ipV xss = decide (C = 0) ∧ ipC xss = if C = 4 then 0 else C) := Lib.hid (by unfold ipV ipC; rw [hC.out]; exact ⟨rfl, rfl⟩)
  rw [hr.out.1, hr.out.2]
  have HSQ := Lib.hid (fun V (hV : Below w.heap.size w V) => SquaresOf_any V xss v (h.below hV))
  rw [hC.out] at HSQ
  obtain ⟨A0, cap0, rfl, _, _⟩ := formFrSS h
  clear h
  rcases hor with rfl | rfl | rfl | rfl
  all_goals (
    go_enter Try.func11, Try.ntmps11
    go_wp2_with fail
    refine Calls.mono (HSQ.out _ belA) ?_
    rintro e0 w1 ⟨A, cap, A', cap', F, F', rfl, _, _, _, hb⟩
    obtain ⟨X, m, rfl⟩ := plsOf hb
    clear hb
    go_wp2_with fail)
  · exact bodyPost_ret (v := .tuple #[.bool true, .int .i64 0]) (by simp [results, Try.results11, go_sem]) rfl ⟨rfl, belA⟩
  · exact bodyPost_ret (v := .tuple #[.bool false, .int .i64 1]) (by simp [results, Try.results11, go_sem]) rfl ⟨rfl, belA⟩
  · exact bodyPost_ret (v := .tuple #[.bool false, .int .i64 3]) (by simp [results, Try.results11, go_sem]) rfl ⟨rfl, belA⟩
  · exact bodyPost_ret (v := .tuple #[.bool false, .int .i64 0]) (by simp [results, Try.results11, go_sem]) rfl ⟨rfl, belA⟩
def rkN (xs : List (Int × Int)) : Nat := xs.countP fun d => d.1 != 0
theorem rkN_succ {xs : List (Int × Int)} {k : Nat} {d : Int × Int} (h : xs[k]? = some d) : rkN (xs.take (k + 1)) = rkN (xs.take k) + if d.1 != 0 then 1 else 0 := by
  unfold rkN
  rw [List.take_add_one, h, List.countP_append]
  simp [List.countP_cons]
theorem sqP_len (xss : List (List (Int × Int))) : (sqP xss).length ≤ 8 := by
  unfold sqP
  split
  · rename_i h
    rw [rowL_len]
    unfold sqC at h
    split at h
    · rename_i hv; exact (SqM.of hv).1
    · omega
  · simp
set_option maxHeartbeats 1000000 in
theorem RankOf_any (w : World) (xss : List (List (Int × Int))) (v : Value) (h : Lst (shL shFr) w xss v) : Calls Try.prog 14 #[v] w fun e w' => e = .returned (.tuple #[.int .i64 (rkN (sqP xss)), .int .i64 (sqC xss)]) ∧ Below w.heap.size w w' := by
  have hl8 := sqP_len xss
  obtain ⟨C, hC⟩ : ∃ C, Hid (sqC xss = C) := ⟨_, Lib.hid rfl⟩
  obtain ⟨PS, hPS⟩ : ∃ PS, Hid (sqP xss = PS) := ⟨_, Lib.hid rfl⟩
  have HSQ := Lib.hid (fun V (hV : Below w.heap.size w V) => SquaresOf_any V xss v (h.below hV))
  rw [hC.out, hPS.out] at HSQ ⊢
  rw [hPS.out] at hl8
  obtain ⟨A0, cap0, rfl, _, _⟩ := formFrSS h
  clear h
  go_enter Try.func14, Try.ntmps14
  go_wp2_with fail
  refine Calls.mono (HSQ.out _ belA) ?_
  rintro e0 w1 ⟨A, cap, A', cap', F, F', rfl, hO, _, _, hb⟩
  have HB1 := Lib.hid (show Below w.heap.size w w1 from Below.trans belA (hb.mono (by first | omega | (simp <;> omega))))
  have HO := Lib.hid hO.lst
  clear hb hO
  obtain ⟨N, hN⟩ : ∃ N, Hid (PS.length = N) := ⟨_, Lib.hid rfl⟩
  rw [hN.out] at HO hl8 ⊢
  go_wp2_with fail
  go_loopw [18, 7] (fun i m wr => ∃ (k : Nat), k ≤ N ∧ i = .int .i64 k ∧ m = .int .i64 (rkN (PS.take k)) ∧ Below w1.heap.size w1 wr) (fun i _ _ => N - (intOf i).toNat)
  case atStart => exact ⟨0, Nat.zero_le _, rfl, rfl, belA⟩
  case round =>
    obtain ⟨k, hk, rfl, rfl, hB⟩ := hrel
    have hz := hB.size
    by_cases hlt : k < N
    · have hk8 : (k : Int) < (N : Int) := by omega
      obtain ⟨A1, c1, e1, hc1, _, _, hel⟩ := lstFraction HO.out
      injection e1 with e1 _ e2
      subst e1
      subst e2
      rw [hN.out] at hc1 hel
      obtain ⟨bl, off, rfl, hel2⟩ := hel (by omega)
      obtain ⟨d, hd, _, x0, x1⟩ := hel2 k hlt
      have zb := World.block_lt_of_cell? _ _ x0
      simp only at zb
      have x0 := bkeep hB x0
      have x1 := bkeep hB x1
      have hst := Lib.hid (rkN_succ hd)
      have hcn : Hid (rkN (PS.take k) ≤ 8) := Lib.hid (by have : rkN (PS.take k) ≤ (PS.take k).length := List.countP_le_length; rw [List.length_take] at this; omega)
      obtain ⟨M, hM⟩ : ∃ M, Hid (rkN (PS.take k) = M) := ⟨_, Lib.hid rfl⟩
      rw [hM.out] at hst hcn ⊢
      have hm8 := hcn.out
      clear hd hel hel2
      cases hz0 : d.1 != 0
      · have hst2 : Hid (rkN (PS.take (k + 1)) = M) := Lib.hid (by rw [hst.out, hz0]; rfl)
        go_wp2_with fail
        go_roundw
        case rel => exact ⟨k + 1, by omega, by go_num, by rw [hst2.out], belA⟩
        case measure => simp [intOf]; omega
      · have hst2 : Hid (rkN (PS.take (k + 1)) = M + 1) := Lib.hid (by rw [hst.out, hz0]; rfl)
        go_wp2_with fail
        go_roundw
        case rel => exact ⟨k + 1, by omega, by go_num, by rw [hst2.out]; go_num, belA⟩
        case measure => simp [intOf]; omega
    · have e : k = N := by omega
      have hfin : Hid (rkN (PS.take k) = rkN PS) := Lib.hid (by rw [List.take_of_length_le (by rw [hN.out]; omega)])
      subst e
      obtain ⟨M, hM⟩ : ∃ M, Hid (rkN (PS.take k) = M) := ⟨_, Lib.hid rfl⟩
      have hME : Hid (M = rkN PS) := Lib.hid (by rw [← hM.out, hfin.out])
      rw [hM.out]
      have hb1 := HB1.out
      have hge : ¬ ((k : Int) < (k : Int)) := by omega
      clear hk hlt hl8 hz
      go_wp2_with fail
      exact bodyPost_ret (v := .tuple #[.int .i64 M, .int .i64 C]) (by simp [results, Try.results14, go_sem]) rfl ⟨by rw [hME.out], hb1.trans (hB.mono hb1.size)⟩
end Go.Proofs.Ytekchdgpaemofaa

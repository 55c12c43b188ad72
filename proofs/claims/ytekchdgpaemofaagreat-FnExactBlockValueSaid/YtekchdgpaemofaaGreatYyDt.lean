import Derived.OwnWalk
import Derived.Test.YtekchdgpaemofaaGreatYyCh
import Derived.Test.YtekchdgpaemofaaGreatYyVq
namespace Go.Proofs.YtekchdgpaemofaaGreat
open Go.ChangeShapes Go.WideShapes Go.RowKit
set_option linter.unusedVariables false
set_option linter.unusedSimpArgs false
attribute [local irreducible] Calls
@[irreducible] def shlW1 (a : Int) (b : Nat) : Int := wrap64 (a * 2 ^ min b 64)
theorem shl_u64' (t : TypeId) (a : Int) (b : Nat) : binOp .shl t (.int .i64 a) (.int .u64 (b : Int)) = pure (.int .i64 (shlW1 a b)) := by
  rw [binOp_shl]
  unfold shlW1
  have h : ¬ ((b : Int) < 0) := by omega
  simp only [Op.shift, h, if_false, Int.toNat_natCast, IntKind.bits]
  rw [IntKind.wrap_i64]
  unfold wrap64
  rfl
@[irreducible] def shrW (a : Int) (b : Nat) : Int := a / 2 ^ min b 64
theorem shr_u64 (t : TypeId) (a : Int) (b : Nat) : binOp .shr t (.int .i64 a) (.int .u64 (b : Int)) = pure (.int .i64 (shrW a b)) := by
  rw [binOp_shr, shift_shr_any _ _ _ _ (by omega)]
  unfold shrW
  rfl
def bitB (b v : Nat) : Bool := bits .and .i64 (shrW b v) 1 == 1
def bitL (b n : Nat) : List Int := ((List.range n).filter (bitB b)).map fun (i : Nat) => (i : Int)
def stTo (q n m : Nat) : List (List Int) := ((List.range m).map fun b => bitL b n).filter fun L => L.length == q
def stL (q n : Nat) : List (List Int) := stTo q n (2 ^ n)
theorem bitL_succ (b n : Nat) : bitL b (n + 1) = if bitB b n then bitL b n ++ [(n : Int)] else bitL b n := by
  unfold bitL
  rw [List.range_succ, List.filter_append, List.map_append]
  cases h : bitB b n <;> simp [h]
theorem stTo_succ (q n m : Nat) : stTo q n (m + 1) = if (bitL m n).length = q then stTo q n m ++ [bitL m n] else stTo q n m := by
  unfold stTo
  rw [List.range_succ, List.map_append, List.filter_append]
  by_cases h : (bitL m n).length = q <;> simp [h]
theorem bitL_len (b n : Nat) : (bitL b n).length ≤ n := by
  unfold bitL
  rw [List.length_map]
  exact Nat.le_trans (List.length_filter_le _ _) (by simp)
theorem stTo_len (q n m : Nat) : (stTo q n m).length ≤ m := by
  unfold stTo
  exact Nat.le_trans (List.length_filter_le _ _) (by simp)
def LsRet (w : World) (LS : List (List Int)) (e : Ending) (w' : World) : Prop := ∃ A cap F, e = .returned (.slice A LS.length cap) ∧ Own (shL (shI .i64)) w.heap.size w' LS (.slice A LS.length cap) F ∧ Below w.heap.size w w'
theorem l04Free_any (w : World) (d : Flg) (h0 : 0 ≤ d.1 ∧ d.1 ≤ 5) (h1 : 0 ≤ d.2.1 ∧ d.2.1 ≤ 5) : Calls Tryz.prog 78 #[.agg #[.int .i64 d.1, .int .i64 d.2.1, .int .u32 d.2.2]] w fun e w' => e = .returned (.int .i64 (d.2.1 - d.1)) ∧ Below w.heap.size w w' := by
  go_enter Tryz.func78, Tryz.ntmps78
  go_wp2_with fail
  exact bodyPost_ret (v := .int .i64 (d.2.1 - d.1)) (by simp [results, Tryz.results78, go_sem]) rfl ⟨rfl, belA⟩
attribute [local go_sem high] shl_u64' shr_u64
set_option maxHeartbeats 2000000 in
theorem l01Sets_any (w : World) (q n : Nat) (hn : n ≤ 5) : Calls Tryz.prog 261 #[.int .i64 q, .int .i64 n] w (LsRet w (stL q n)) := by
  obtain ⟨i1, z1, hi1, hz1, hs1, hb1, hl1⟩ := infoB_spec (P := Tryz.prog) (e := 2) (sz := 1) (bytes := 8) (by kernel_rfl)
  obtain ⟨i2, z2, hi2, hz2, hs2, hb2, hl2⟩ := infoB_spec (P := Tryz.prog) (e := 168) (sz := 1) (bytes := 24) (by kernel_rfl)
  have I1 := Lib.hid hi1
  have I2 := Lib.hid hi2
  have Z1 := Lib.hid hz1
  have Z2 := Lib.hid hz2
  obtain ⟨M, hM, hM32, HSH⟩ : ∃ M : Nat, Hid (2 ^ n = M) ∧ M ≤ 32 ∧ Hid (shlW1 1 n = (M : Int)) := by
    have : n = 0 ∨ n = 1 ∨ n = 2 ∨ n = 3 ∨ n = 4 ∨ n = 5 := by omega
    rcases this with rfl | rfl | rfl | rfl | rfl | rfl <;> exact ⟨_, Lib.hid rfl, by decide, Lib.hid (by unfold shlW1; decide +kernel)⟩
  clear hi1 hi2 hz1 hz2
  go_enter Tryz.func261, Tryz.ntmps261
  go_wp2_with fail
  go_loopw [5, 6] (fun o i wr => ∃ (k : Nat), k ≤ M ∧ i = .int .i64 k ∧ Hid (AppS (shL (shI .i64)) w.heap.size 168 wr o (stTo q n k)) ∧ Below w.heap.size w wr) (fun _ i _ => M - (intOf i).toNat)
  case atStart => exact ⟨0, Nat.zero_le _, rfl, Lib.hid (AppS.new _ (blknew _ _) (Nat.le_refl _)), belA⟩
  case round =>
    obtain ⟨k, hk, rfl, hA, hB⟩ := hrel
    have hzz := hB.size
    by_cases hlt : k < M
    · have hk8 : (k : Int) < (M : Int) := by omega
      have hsh := HSH.out
      go_wp2_with fail
      clear hsh
      obtain ⟨W0, rfl⟩ : ∃ x, x = wr := ⟨_, rfl⟩
      go_loopw [7, 8] (fun r j wq => ∃ (l : Nat), l ≤ n ∧ j = .int .i64 l ∧ Hid (AppI W0.heap.size wq r (bitL k l)) ∧ Below W0.heap.size W0 wq) (fun _ j _ => n - (intOf j).toNat)
      case atStart => exact ⟨0, Nat.zero_le _, rfl, Lib.hid (AppI.new (blknew _ _) (Nat.le_refl _)), belA⟩
      case round =>
        obtain ⟨l, hl, rfl, hA1, hB1⟩ := hrel
        have hz1 := hB1.size
        by_cases hlt2 : l < n
        · have hl8 : (l : Int) < (n : Int) := by omega
          cases hbt : (bits .and .i64 (shrW (k : Int) l) 1 == 1)
          · have hbb : Hid (bitB k l = false) := Lib.hid hbt
            go_wp2_with fail
            go_roundw
            case rel => exact ⟨l + 1, by omega, by go_num, Lib.hid (by rw [bitL_succ, hbb.out]; exact hA1.out), hB1⟩
            case measure => simp [intOf]; omega
          · have hbb : Hid (bitB k l = true) := Lib.hid hbt
            have hq : Hid ((bitL k l).length ≤ l) := Lib.hid (bitL_len k l)
            have hW := Lib.hid (hA1.out.below (w' := wr.alloc (.cells #[.int .i64 l] 2)) ((bal (Below.refl _ _) _)))
            go_wp2_with (at_builtin; refine wpList_append_lies _ rfl (.tmp 29) (.tmp 31) 168 rfl W0.heap.size 2 i1 z1 1 8 Tryz.underlying168 I1.out Z1.out hs1 hb1 hl1 (by decide) u7 (bitL k l).length _ rfl hW.out.1 ⟨wr.heap.size, 0, none⟩ 1 1 [.int .i64 l] rfl rfl (World.news_of_block (blknew _ _)) (by simp [Value.oneCell']) (by decide) (by have := hq.out; unfold maxLen; omega) (by have := hq.out; omega) (by simp; omega) _ rfl ?_; intro g1 cap1 w2 hown hgrow hat hlt3)
            go_roundw
            case rel =>
              have hN := hW.out.next (okN (n := l) (by omega)) hown
              have hAo := hA1.out.ge
              have hb2 := grown_below (B := W0.heap.size) hgrow (fun q hq => (hAo q hq).1) (by simp; omega)
              exact ⟨l + 1, by omega, by go_num, Lib.hid (by rw [bitL_succ, hbb.out]; exact hN), (hB1.trans ((bal (Below.refl _ _) _).mono (by omega))).trans hb2⟩
            case measure => simp [intOf]; omega
        · have e : l = n := by omega
          subst e
          obtain ⟨F1, hO1⟩ := hA1.out.own
          obtain ⟨A1, cap1, rfl⟩ := hA1.out.form
          have HO1 := Lib.hid hO1
          obtain ⟨Q, hQ, hQl⟩ : ∃ Q : Nat, Hid ((bitL k l).length = Q) ∧ Q ≤ l := ⟨_, Lib.hid rfl, bitL_len k l⟩
          rw [hQ.out] at HO1 ⊢
          have hqq : Hid ((decide ((bitL k l).length = q)) = ((Q : Int) == (q : Int))) := Lib.hid (by rw [hQ.out, Bool.eq_iff_iff]; simp; omega)
          clear hO1
          cases hqe : ((Q : Int) == (q : Int))
          · have hst : Hid (stTo q l (k + 1) = stTo q l k) := Lib.hid (by
              have h1 := hqq.out
              rw [hqe] at h1
              rw [stTo_succ, if_neg (by simpa using h1)])
            go_wp2_with fail
            go_roundw
            case rel => exact ⟨k + 1, by omega, by go_num, Lib.hid (by rw [hst.out]; exact hA.out.below hB1), hB.trans (hB1.mono hB.size)⟩
            case measure => simp [intOf]; omega
          · have hst : Hid (stTo q l (k + 1) = stTo q l k ++ [bitL k l]) := Lib.hid (by
              have h1 := hqq.out
              rw [hqe] at h1
              rw [stTo_succ, if_pos (by simpa using h1)])
            have hml := Lib.hid (stTo_len q l k)
            obtain ⟨L, F, hW00⟩ := hA.out
            have hFb : Hid (∀ b ∈ F, b < W0.heap.size) := Lib.hid hW00.2.1.lt
            have hW0 := hW00.move (w' := wr) (fun b h1 h2 => hB1.block b h2)
            have hW := Lib.hid (hW0.move (w' := wr.alloc (.cells #[.slice A1 Q cap1] 168)) (fun b _ hl => Below.heap_alloc wr _ b hl))
            clear hW0 hW00
            go_wp2_with (at_builtin; refine wpList_append_lies _ rfl (.tmp 37) (.tmp 39) 202 rfl w.heap.size 168 i2 z2 1 24 Tryz.underlying202 I2.out Z2.out hs2 hb2 hl2 (by decide) u5 (stTo q l k).length L rfl hW.out.1 ⟨wr.heap.size, 0, none⟩ 1 1 [.slice A1 Q cap1] rfl rfl (World.news_of_block (blknew _ _)) (by simp [Value.oneCell']) (by decide) (by have := hml.out; unfold maxLen; omega) (by have := hml.out; omega) (by simp; omega) _ rfl ?_; intro g1 cap2 w2 hown hgrow hat hlt3)
            go_roundw
            case rel =>
              have hOw : (shL (shI .i64)).own (wr.alloc (.cells #[.slice A1 Q cap1] 168)) (bitL k l) [.slice A1 Q cap1] F1 := (shL (shI .i64)).ownKeep _ _ _ _ _ (fun b hb => Below.heap_alloc wr _ b (HO1.out.lt b hb)) HO1.out.1
              have hAo := hA.out.ge
              have hFo := hFb.out
              have hN := hW.out.next (s := shL (shI .i64)) (d := bitL k l) hOw HO1.out.2.1 (fun b hb => by have := HO1.out.2.2 b hb; omega) (fun b hb hb2 => by have := HO1.out.2.2 b hb; have := hFo b hb2; omega) (fun q hq hb => by have := HO1.out.2.2 q hb; have := (hAo q hq).2; omega) hown hgrow hat
              have hb1 : Below w.heap.size w (wr.alloc (.cells #[.slice A1 Q cap1] 168)) := (hB.trans (hB1.mono hB.size)).alloc (by omega) _
              have hb2 := grown_below (B := w.heap.size) hgrow (fun q hq => (hAo q hq).1) (by simp; omega)
              exact ⟨k + 1, by omega, by go_num, Lib.hid (by rw [hst.out]; exact hN), hb1.trans hb2⟩
            case measure => simp [intOf]; omega
    · have e : k = M := by omega
      subst e
      obtain ⟨A1, cap1, F1, rfl, hO⟩ := hA.out.own
      have hst : Hid (stTo q n k = stL q n) := Lib.hid (by unfold stL; rw [hM.out])
      rw [hst.out] at hO ⊢
      have HO := Lib.hid hO
      clear hO
      have hsh := HSH.out
      go_wp2_with fail
      exact bodyPost_ret (v := .slice A1 (stL q n).length cap1) (by simp [results, Tryz.results261, go_sem]) rfl ⟨A1, cap1, F1, rfl, HO.out, hB⟩
end Go.Proofs.YtekchdgpaemofaaGreat

/- spec.l04Sets. -/
namespace Go.Proofs.YtekchdgpaemofaaGreat
open Go.ChangeShapes Go.WideShapes Go.RowKit
set_option linter.unusedVariables false
set_option linter.unusedSimpArgs false
attribute [local irreducible] Calls
def upL (k : Nat) (L : List Int) : List Int := L.map fun x => x + (k : Int)
def s4L (q k n : Nat) : List (List Int) := (stL q (n - k)).map (upL k)
theorem stL_bds : ∀ q ≤ 5, ∀ n ≤ 5, (stL q n).all (fun L => decide (L.length = q) && L.all fun x => decide (0 ≤ x ∧ x ≤ 4)) = true := by decide +kernel
theorem stL_bd {q n : Nat} (hq : q ≤ 5) (hn : n ≤ 5) {L : List Int} (h : L ∈ stL q n) : L.length = q ∧ ∀ x ∈ L, 0 ≤ x ∧ x ≤ 4 := by
  have h1 := stL_bds q hq n hn
  rw [List.all_eq_true] at h1
  have := h1 L h
  simp only [Bool.and_eq_true, decide_eq_true_eq, List.all_eq_true] at this
  exact this
def UpTo (k : Nat) (LS LS' : List (List Int)) (i : Nat) : Prop := LS'.length = LS.length ∧ (∀ a, a < i → LS'[a]? = (LS[a]?).map (upL k)) ∧ ∀ a, i ≤ a → LS'[a]? = LS[a]?
def UpIn (k : Nat) (LS LS' : List (List Int)) (i j : Nat) : Prop := LS'.length = LS.length ∧ (∀ a, a < i → LS'[a]? = (LS[a]?).map (upL k)) ∧ (∀ a, i < a → LS'[a]? = LS[a]?) ∧
  ∃ L R, LS[i]? = some L ∧ LS'[i]? = some R ∧ R.length = L.length ∧ (∀ b, b < j → R[b]? = (L[b]?).map fun x => x + (k : Int)) ∧ ∀ b, j ≤ b → R[b]? = L[b]?
theorem UpTo.start (k : Nat) (LS : List (List Int)) : UpTo k LS LS 0 := ⟨rfl, fun a h => absurd h (Nat.not_lt_zero a), fun _ _ => rfl⟩
theorem UpTo.into {k : Nat} {LS LS' : List (List Int)} {i : Nat} (h : UpTo k LS LS' i) (hi : i < LS.length) : UpIn k LS LS' i 0 :=
  ⟨h.1, h.2.1, fun a ha => h.2.2 a (by omega), LS[i], LS[i], List.getElem?_eq_getElem hi, (h.2.2 i (Nat.le_refl i)).trans (List.getElem?_eq_getElem hi), rfl, fun b hb => absurd hb (Nat.not_lt_zero b), fun _ _ => rfl⟩
theorem UpIn.done {k : Nat} {LS LS' : List (List Int)} {i j : Nat} (h : UpIn k LS LS' i j) (hj : ∀ L, LS[i]? = some L → j = L.length) : UpTo k LS LS' (i + 1) := by
  obtain ⟨h1, h2, h3, L, R, h4, h5, h6, h7, h8⟩ := h
  refine ⟨h1, fun a ha => ?_, fun a ha => h3 a (by omega)⟩
  rcases Nat.lt_or_ge a i with h | h
  · exact h2 a h
  · have : a = i := by omega
    subst this
    rw [h4, h5, Option.map_some]
    congr 1
    apply List.ext_getElem?
    intro b
    rw [upL, List.getElem?_map]
    rcases Nat.lt_or_ge b j with hb | hb
    · exact h7 b hb
    · have := hj L h4
      rw [List.getElem?_eq_none (by omega), List.getElem?_eq_none (by omega)]; rfl
theorem UpIn.next {k : Nat} {LS LS' : List (List Int)} {i j : Nat} (h : UpIn k LS LS' i j) {R : List Int} (hR : LS'[i]? = some R) {x : Int} (hx : R[j]? = some x) : UpIn k LS (LS'.set i (R.set j (x + (k : Int)))) i (j + 1) := by
  obtain ⟨h1, h2, h3, L, R', h4, h5, h6, h7, h8⟩ := h
  have : R' = R := Option.some.inj (h5.symm.trans hR)
  subst this
  have hi : i < LS'.length := (List.getElem?_eq_some_iff.1 hR).1
  have hj : j < R'.length := (List.getElem?_eq_some_iff.1 hx).1
  refine ⟨by rw [List.length_set, h1], fun a ha => by rw [List.getElem?_set_ne (by omega)]; exact h2 a ha, fun a ha => by rw [List.getElem?_set_ne (by omega)]; exact h3 a ha, L, R'.set j (x + (k : Int)), h4, List.getElem?_set_self hi, by rw [List.length_set, h6], fun b hb => ?_, fun b hb => by rw [List.getElem?_set_ne (by omega)]; exact h8 b (by omega)⟩
  rcases Nat.lt_or_ge b j with hbj | hbj
  · rw [List.getElem?_set_ne (by omega)]; exact h7 b hbj
  · have : b = j := by omega
    subst this
    rw [List.getElem?_set_self hj, ← h8 b (Nat.le_refl b), hx]
    rfl
theorem UpTo.full {k : Nat} {LS LS' : List (List Int)} (h : UpTo k LS LS' LS.length) : LS' = LS.map (upL k) := by
  apply List.ext_getElem?
  intro a
  rw [List.getElem?_map]
  rcases Nat.lt_or_ge a LS.length with ha | ha
  · exact h.2.1 a ha
  · rw [h.2.2 a ha, List.getElem?_eq_none ha]; rfl
theorem own_rowI {B : Nat} {w : World} {xss : List (List Int)} {v : Value} {F : List Nat} (h : Own (shL (shI .i64)) B w xss v F) {j : Nat} {xs : List Int} (hj : xss[j]? = some xs) :
    ∃ (g cap : Nat) (Fi : List Nat) (vi : Value), v = .slice (some ⟨g, 0, none⟩) xss.length cap ∧ w.cell? ⟨g, j, none⟩ = some vi ∧ w.frozen? ⟨g, j, none⟩ = false ∧ Own (shI .i64) B w xs vi Fi ∧ (∀ b ∈ Fi, b ∈ F) ∧ g ∉ Fi ∧ g ∈ F ∧
      ∀ (w' : World) (xs' : List Int), (∀ b, b < w.heap.size → b ∉ Fi → w'.heap[b]? = w.heap[b]?) → Own (shI .i64) B w' xs' vi Fi → Own (shL (shI .i64)) B w' (xss.set j xs') v F := Own.row h hj
theorem okN' {n : Int} (h : -1000000 ≤ n ∧ n ≤ 1000000) : okI .i64 n := by
  simp only [okI, Lit.wf, IntKind.min, IntKind.max, IntKind.signed, IntKind.bits]
  simp
  omega
set_option maxHeartbeats 2000000 in
theorem l04Sets_any (w : World) (q k n : Nat) (e : Int) (hq : q ≤ 5) (hk : k ≤ 3) (hkn : k ≤ n) (hn : n ≤ 5) : Calls Tryz.prog 205 #[.int .i64 q, .agg #[.int .i64 k, .int .i64 n, .int .u32 e]] w (LsRet w (s4L q k n)) := by
  have hnk : Hid ((n : Int) - (k : Int) = ((n - k : Nat) : Int)) := Lib.hid (by omega)
  obtain ⟨LS, hLS, N, hN⟩ : ∃ LS : List (List Int), Hid (stL q (n - k) = LS) ∧ ∃ N : Nat, Hid (LS.length = N) := ⟨_, Lib.hid rfl, _, Lib.hid rfl⟩
  have hbd : Hid (∀ L ∈ LS, L.length = q ∧ ∀ x ∈ L, 0 ≤ x ∧ x ≤ 4) := Lib.hid fun L hL => stL_bd hq (show n - k ≤ 5 by omega) (by rw [hLS.out]; exact hL)
  have hN32 : N ≤ 32 := by
    rw [← hN.out, ← hLS.out]
    refine Nat.le_trans (stTo_len _ _ _) ?_
    exact Nat.pow_le_pow_right (n := 2) (by omega) (show n - k ≤ 5 by omega)
  have hs4 : Hid (s4L q k n = LS.map (upL k)) := Lib.hid (by unfold s4L; rw [hLS.out])
  have HST : Hid (∀ w, Calls Tryz.prog 261 #[.int .i64 q, .int .i64 ((n - k : Nat) : Int)] w (LsRet w LS)) := Lib.hid fun w => by
    have := l01Sets_any w q (n - k) (by omega)
    rw [hLS.out] at this
    exact this
  have hk8 : (k : Int) ≤ (n : Int) := by omega
  obtain ⟨NK, hNK⟩ : ∃ NK : Int, (n : Int) - (k : Int) = NK := ⟨_, rfl⟩
  have hNK2 : Hid (NK = ((n - k : Nat) : Int)) := Lib.hid (by rw [← hNK]; exact hnk.out)
  go_enter Tryz.func205, Tryz.ntmps205
  go_wp2_with fail
  rw [hNK2.out]
  refine Calls.mono (HST.out _) ?_
  rintro e0 w1 ⟨A1, cap1, F1, rfl, hO1, hb⟩
  rw [hN.out] at hO1 ⊢
  have HO1 := Lib.hid (show Own (shL (shI .i64)) (w.heap.size + 1) w1 LS (.slice A1 N cap1) F1 from hO1.below (by simp) (Below.refl _ _))
  have k0 : w1.heap[w.heap.size]? = some (.cells #[.int .i64 k, .int .i64 n, .int .u32 e] 104 (0, 0)) := bblk hb (by simp) blkA
  have HB1 := Lib.hid (show Below w.heap.size w w1 from Below.trans belA (hb.mono (by simp)))
  have K0 := Lib.hid k0
  have hcap : N ≤ cap1 ∧ cap1 ≤ maxLen := by
    obtain ⟨_, _, he, h1, h2, _⟩ := rep_slice HO1.out.lst
    injection he with _ e2 e3
    rw [← e2, ← e3] at h1
    exact ⟨h1, by rw [e3]; exact h2⟩
  obtain ⟨hcap, hmx⟩ := hcap
  unfold maxLen at hmx
  clear hb hO1 k0 hNK
  go_wp2_with fail
  go_loopw [6] (fun i wr => ∃ (a : Nat) (LS' : List (List Int)), a ≤ N ∧ i = .int .i64 a ∧ wr.heap[w.heap.size]? = some (.cells #[.int .i64 k, .int .i64 n, .int .u32 e] 104 (0, 0)) ∧ Hid (Own (shL (shI .i64)) (w.heap.size + 1) wr LS' (.slice A1 N cap1) F1) ∧ Hid (UpTo k LS LS' a) ∧ Below w.heap.size w wr) (fun i _ => N - (intOf i).toNat)
  case atStart => exact ⟨0, LS, Nat.zero_le _, rfl, K0.out, HO1, Lib.hid (UpTo.start k LS), HB1.out⟩
  case round =>
    obtain ⟨a, LS', ha, rfl, b0, hO, hU, hB⟩ := hrel
    by_cases hlt : a < N
    · have hk8 : (a : Int) < (N : Int) := by omega
      go_wp2_with fail
      obtain ⟨W0, rfl⟩ : ∃ x, x = wr := ⟨_, rfl⟩
      go_loopw [7] (fun j wr => ∃ (b : Nat) (LS' : List (List Int)), b ≤ q ∧ j = .int .i64 b ∧ wr.heap[w.heap.size]? = some (.cells #[.int .i64 k, .int .i64 n, .int .u32 e] 104 (0, 0)) ∧ Hid (Own (shL (shI .i64)) (w.heap.size + 1) wr LS' (.slice A1 N cap1) F1) ∧ Hid (UpIn k LS LS' a b) ∧ Below w.heap.size w wr) (fun j _ => q - (intOf j).toNat)
      case atStart => exact ⟨0, LS', Nat.zero_le _, rfl, b0, hO, Lib.hid (hU.out.into (by rw [hN.out]; exact hlt)), hB⟩
      case round =>
        obtain ⟨b, LS2, hb, rfl, b1, hO2, hU2, hB2⟩ := hrel
        obtain ⟨L, R, hL, hR, hlen, hdone, hrest⟩ := hU2.out.2.2.2
        have hLq := (hbd.out L (List.mem_of_getElem? hL)).1
        have hLx := (hbd.out L (List.mem_of_getElem? hL)).2
        obtain ⟨g2, cap3, Fi, vi, hv, c0, f0, hOi, hsub, hgi, hgF, hback⟩ := own_rowI hO2.out hR
        obtain ⟨rfl, hNl, rfl⟩ : A1 = some ⟨g2, 0, none⟩ ∧ N = LS2.length ∧ cap1 = cap3 := by simpa using hv
        have zg := World.block_lt_of_cell? _ _ c0
        simp only at zg
        have hgw : w.heap.size + 1 ≤ g2 := hO2.out.ge g2 hgF
        obtain ⟨fk0, _, _⟩ := blkc3 b1
        have zw := blklt b1
        obtain ⟨A4, cap4, rfl, hc4, hm4, hel4⟩ := lstI hOi.lst
        unfold maxLen at hm4
        have hRq : R.length = q := by rw [hlen, hLq]
        rw [hRq] at c0 hOi hback hc4
        have hRQ := Lib.hid hRq
        have HBK := Lib.hid hback
        have HOI := Lib.hid hOi
        have hRR := Lib.hid hR
        by_cases hlt2 : b < q
        · have hb8 : (b : Int) < (q : Int) := by omega
          obtain ⟨g4, cu, t, hA4, hFi, hge4, hh4, hs4⟩ : ∃ (g : Nat) (cu : Array Value) (t : TypeId), A4 = some ⟨g, 0, none⟩ ∧ Fi = [g] ∧ w.heap.size + 1 ≤ g ∧ wr.heap[g]? = some (.cells cu t (0, 0)) ∧ R.length * 1 ≤ cu.size := by
            obtain ⟨A', cap', hv', _, _, h4⟩ := own_flat (flat_int .i64) hOi
            have : A4 = A' := by injection hv'
            subst this
            rcases h4 with ⟨hnil, _⟩ | h4
            · rw [hnil] at hRq; simp at hRq; omega
            · exact h4
          subst hA4 hFi
          have hx : R[b]? = some (gi R b) := by simp [gi, List.getElem?_eq_getElem (show b < R.length by omega)]
          obtain ⟨X, hX⟩ : ∃ X, gi R b = X := ⟨_, rfl⟩
          have hxb := hLx X (List.mem_of_getElem? (by rw [← hrest b (Nat.le_refl b), hx, hX]))
          have ce := lst_cell hOi.lst (show b < R.length by omega)
          rw [hX, Nat.zero_add] at ce
          have fe : wr.frozen? ⟨g4, b, none⟩ = false := by simp [World.frozen?, hh4]
          have z4 := blklt hh4
          have hne : g4 ≠ w.heap.size := by omega
          have hne2 : g4 ≠ g2 := fun e => hgi (by simp [e])
          have HX := Lib.hid (show R[b]? = some X by rw [hx, hX])
          have hset := own_setI' hOi hRq hlt2 (d := X + (k : Int)) (okN' (by omega))
          have HS := Lib.hid hset.2.2
          have B1 := Lib.hid b1
          obtain ⟨hx1, hx2⟩ := hxb
          clear hNl hx hX hLx hOi hh4 hs4 hset hlen hdone hrest hL hR hLq hel4 hsub hgi hgF hback hRq hv b1
          obtain ⟨W1, rfl⟩ : ∃ x, x = wr := ⟨_, rfl⟩
          go_wp2_with fail
          (refine wp_region_held_drew (S := (fun w' => w'.cell? ⟨g2, a, none⟩ = some (.slice (some ⟨g4, 0, none⟩) q cap4) ∧ w'.cell? ⟨w.heap.size, 0, none⟩ = some (.int .i64 k))) (by kernel_rfl) ?_ (fun hHeld => ?_); (focus (first | (simp [*, go_sem]; done) | fail)); refine rt 0 (some 31) (v := ?_) rfl rfl ?_ ?_; rotate_left; (focus (intro w' hSw; (try dsimp only at hSw); go_simp; (try with_reducible rfl))); (try simp only [Act.put, nA, nB, nC]); refine rt 1 (some 32) (v := ?_) rfl rfl ?_ ?_; rotate_left; (focus (intro w' hSw; (try dsimp only at hSw); go_simp; (try with_reducible rfl))); (try simp only [Act.put, nA, nB, nC]); refine rt 2 (some 33) (v := ?_) rfl rfl ?_ ?_; rotate_left; (focus (intro w' hSw; (try dsimp only at hSw); go_simp; (try with_reducible rfl))); (try simp only [Act.put, nA, nB, nC]); refine rt 3 (some 34) (v := ?_) rfl rfl ?_ ?_; rotate_left; (focus (intro w' hSw; (try dsimp only at hSw); go_simp; (try with_reducible rfl))); (try simp only [Act.put, nA, nB, nC]); refine rt 4 (some 35) (v := ?_) rfl rfl ?_ ?_; rotate_left; (focus (intro w' hSw; (try dsimp only at hSw); go_simp; (try with_reducible rfl))); (try simp only [Act.put, nA, nB, nC]); refine rt 5 (some 36) (v := ?_) rfl rfl ?_ ?_; rotate_left; (focus (intro w' hSw; (try dsimp only at hSw); go_simp; (try with_reducible rfl))); (try simp only [Act.put, nA, nB, nC]); refine rt 7 (some 38) (v := ?_) rfl rfl ?_ ?_; rotate_left; (focus (intro w' hSw; (try dsimp only at hSw); go_simp; (try with_reducible rfl))); (try simp only [Act.put, nA, nB, nC]); refine rt 8 (some 39) (v := ?_) rfl rfl ?_ ?_; rotate_left; (focus (intro w' hSw; (try dsimp only at hSw); go_simp; (try with_reducible rfl))); (try simp only [Act.put, nA, nB, nC]); refine wpAnyH_ready (rs := [6]) (by kernel_rfl) (by simp) ?_; refine AllReadyH.cons rfl (fun K hK => ?_) AllReadyH.nil; (try go_simp); refine hK.out _ _ ?_ (fun hHeld => ?_); (focus (first | (simp [*, go_sem]; done) | fail)); clear hK K; (try simp only [Act.put, nA, nB, nC]); refine rt 9 (some 40) (v := ?_) rfl rfl ?_ ?_; rotate_left; (focus (intro w' hSw; (try dsimp only at hSw); go_simp; (try with_reducible rfl))); (try simp only [Act.put, nA, nB, nC]); refine rt 10 (some 41) (v := ?_) rfl rfl ?_ ?_; rotate_left; (focus (intro w' hSw; (try dsimp only at hSw); go_simp; (try with_reducible rfl))); (try simp only [Act.put, nA, nB, nC]); refine wpAnyH_ready (rs := [11]) (by kernel_rfl) (by simp) ?_; refine AllReadyH.cons rfl (fun K hK => ?_) AllReadyH.nil; (try go_simp); refine hK.out _ _ ?_ (fun hHeld => ?_); (focus (first | (simp [*, go_sem]; done) | fail)); clear hK K; (try simp only [Act.put, nA, nB, nC]); refine wpAnyH_done (by kernel_rfl) ?_ _)
          clear hHeld
          go_wp2_with fail
          go_roundw
          case rel =>
            refine ⟨b + 1, LS2.set a (R.set b (X + (k : Int))), by omega, by go_num, blkset B1.out (by show w.heap.size ≠ g4; omega) _, Lib.hid ?_, Lib.hid (hU2.out.next hRR.out HX.out), Below.setCell (bdrew1 hB2) (by show w.heap.size ≤ g4; omega) _⟩
            refine HBK.out _ (R.set b (X + (k : Int))) (fun q hq hn => ?_) HS.out
            exact Below.heap_setCell _ ⟨g4, b, none⟩ _ q (by show q ≠ g4; simpa using hn)
          case measure => simp [intOf]; omega
        · have e : b = q := by omega
          subst e
          have hfin : Hid (UpTo k LS LS2 (a + 1)) := Lib.hid (hU2.out.done fun L' hL' => by rw [hL] at hL'; cases hL'; exact hLq.symm)
          clear hNl hLx hOi hlen hdone hrest hL hR hLq hel4 hsub hgi hgF hback hRq hv
          go_wp2_with fail
          go_roundw
          case rel => exact ⟨a + 1, LS2, by omega, by go_num, b1, hO2, hfin, hB2⟩
          case measure => simp [intOf]; omega
    · have e : a = N := by omega
      subst e
      have hfin : Hid (LS' = s4L q k n) := Lib.hid (by rw [hs4.out]; exact UpTo.full (by rw [hN.out]; exact hU.out))
      rw [hfin.out] at hO
      have hl4 : Hid ((s4L q k n).length = a) := Lib.hid (by rw [hs4.out, List.length_map, hN.out])
      go_wp2_with fail
      exact bodyPost_ret (v := .slice A1 a cap1) (by simp [results, Tryz.results205, go_sem]) rfl ⟨A1, cap1, F1, by rw [hl4.out], by rw [hl4.out]; exact hO.out.below (by omega) (Below.refl _ _), hB⟩
end Go.Proofs.YtekchdgpaemofaaGreat

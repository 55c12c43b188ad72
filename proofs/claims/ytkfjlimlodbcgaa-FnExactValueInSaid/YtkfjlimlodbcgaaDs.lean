/- spec.l01Sets, spec.l04Free. -/
import Derived.Test.YtkfjlimlodbcgaaCh
import Derived.Test.YtkfjlimlodbcgaaVq
import Derived.OwnWalk
namespace Go.Proofs.Ytkfjlimlodbcgaa
open Go.ChangeShapes Go.WideShapes Go.RowKit
set_option linter.unusedVariables false
set_option linter.unusedSimpArgs false
attribute [local irreducible] Calls
@[irreducible] def shlW1 (a : Int) (b : Nat) : Int := wrap64 (a * 2 ^ min b 64)
theorem shl_u64' (t : TypeId) (a : Int) (b : Nat) : binOp .shl t (.int .i64 a) (.int .u64 (b : Int)) = pure (.int .i64 (shlW1 a b)) := by
  rw [binOp_shl]
  unfold shlW1
  have h : ¬ ((b : Int) < 0) := by omega
  simp only [Op.shift, h, if_false, Int.toNat_natCast, IntKind.bits]
  rw [IntKind.wrap_i64]
  unfold wrap64
  rfl
@[irreducible] def shrW (a : Int) (b : Nat) : Int := a / 2 ^ min b 64
theorem shr_u64 (t : TypeId) (a : Int) (b : Nat) : binOp .shr t (.int .i64 a) (.int .u64 (b : Int)) = pure (.int .i64 (shrW a b)) := by
  rw [binOp_shr, shift_shr_any _ _ _ _ (by omega)]
  unfold shrW
  rfl
/-- The ascending lists of some vertices, by their bits. -/
def bitB (b v : Nat) : Bool := bits .and .i64 (shrW b v) 1 == 1
def bitL (b n : Nat) : List Int := ((List.range n).filter (bitB b)).map fun (i : Nat) => (i : Int)
def stTo (q n m : Nat) : List (List Int) := ((List.range m).map fun b => bitL b n).filter fun L => L.length == q
def stL (q n : Nat) : List (List Int) := stTo q n (2 ^ n)
theorem bitL_succ (b n : Nat) : bitL b (n + 1) = if bitB b n then bitL b n ++ [(n : Int)] else bitL b n := by
  unfold bitL
  rw [List.range_succ, List.filter_append, List.map_append]
  cases h : bitB b n <;> simp [h]
theorem stTo_succ (q n m : Nat) : stTo q n (m + 1) = if (bitL m n).length = q then stTo q n m ++ [bitL m n] else stTo q n m := by
  unfold stTo
  rw [List.range_succ, List.map_append, List.filter_append]
  by_cases h : (bitL m n).length = q <;> simp [h]
theorem bitL_len (b n : Nat) : (bitL b n).length ≤ n := by
  unfold bitL
  rw [List.length_map]
  exact Nat.le_trans (List.length_filter_le _ _) (by simp)
theorem stTo_len (q n m : Nat) : (stTo q n m).length ≤ m := by
  unfold stTo
  exact Nat.le_trans (List.length_filter_le _ _) (by simp)
/-- Lists of numbers are handed out. -/
def LsRet (w : World) (LS : List (List Int)) (e : Ending) (w' : World) : Prop := ∃ A cap F, e = .returned (.slice A LS.length cap) ∧ Own (shL (shI .i64)) w.heap.size w' LS (.slice A LS.length cap) F ∧ Below w.heap.size w w'
theorem l04Free_any (w : World) (d : Flg) (h0 : 0 ≤ d.1 ∧ d.1 ≤ 5) (h1 : 0 ≤ d.2.1 ∧ d.2.1 ≤ 5) : Calls Try.prog 56 #[.agg #[.int .i64 d.1, .int .i64 d.2.1, .int .u32 d.2.2]] w fun e w' => e = .returned (.int .i64 (d.2.1 - d.1)) ∧ Below w.heap.size w w' := by
  go_enter Try.func56, Try.ntmps56
  go_wp2_with fail
  exact bodyPost_ret (v := .int .i64 (d.2.1 - d.1)) (by simp [results, Try.results56, go_sem]) rfl ⟨rfl, (by (try with_reducible refine bsz ?_); repeat (first | with_reducible exact Below.refl _ _ | ((with_reducible refine bpre ?_); (try simp only [Array.append_assoc]); repeat (first | with_reducible exact Pre.refl _ | with_reducible exact Pre.base _ _ | with_reducible refine Pre.cons _ ?_)) | with_reducible assumption | ((with_reducible refine bsetr ?_); rfl) | with_reducible refine Below.setCell ?_ (by simp <;> omega) _ | with_reducible refine bpl ?_ _ _ | with_reducible refine bal ?_ _ | with_reducible refine bdrew1 ?_ | with_reducible refine bdrew ?_ _))⟩
attribute [local go_sem high] shl_u64' shr_u64
set_option maxHeartbeats 2000000 in
theorem l01Sets_any (w : World) (q n : Nat) (hn : n ≤ 5) : Calls Try.prog 138 #[.int .i64 q, .int .i64 n] w (LsRet w (stL q n)) := by
  obtain ⟨i1, z1, hi1, hz1, hs1, hb1, hl1⟩ := infoB_spec (P := Try.prog) (e := 2) (sz := 1) (bytes := 8) (by kernel_rfl)
  obtain ⟨i2, z2, hi2, hz2, hs2, hb2, hl2⟩ := infoB_spec (P := Try.prog) (e := 73) (sz := 1) (bytes := 24) (by kernel_rfl)
  have I1 := Lib.hid hi1
  have I2 := Lib.hid hi2
  have Z1 := Lib.hid hz1
  have Z2 := Lib.hid hz2
  obtain ⟨M, hM, hM32, HSH⟩ : ∃ M : Nat, Hid (2 ^ n = M) ∧ M ≤ 32 ∧ Hid (shlW1 1 n = (M : Int)) := by
    have : n = 0 ∨ n = 1 ∨ n = 2 ∨ n = 3 ∨ n = 4 ∨ n = 5 := by omega
    rcases this with rfl | rfl | rfl | rfl | rfl | rfl <;> exact ⟨_, Lib.hid rfl, by decide, Lib.hid (by unfold shlW1; decide +kernel)⟩
  clear hi1 hi2 hz1 hz2
  go_enter Try.func138, Try.ntmps138
  go_wp2_with fail
  go_loopw [5, 6] (fun o i wr => ∃ (k : Nat), k ≤ M ∧ i = .int .i64 k ∧ Hid (AppS (shL (shI .i64)) w.heap.size 73 wr o (stTo q n k)) ∧ Below w.heap.size w wr) (fun _ i _ => M - (intOf i).toNat)
  case atStart => exact ⟨0, Nat.zero_le _, rfl, Lib.hid (AppS.new _ (blknew _ _) (Nat.le_refl _)), (by (try with_reducible refine bsz ?_); repeat (first | with_reducible exact Below.refl _ _ | ((with_reducible refine bpre ?_); (try simp only [Array.append_assoc]); repeat (first | with_reducible exact Pre.refl _ | with_reducible exact Pre.base _ _ | with_reducible refine Pre.cons _ ?_)) | with_reducible assumption | ((with_reducible refine bsetr ?_); rfl) | with_reducible refine Below.setCell ?_ (by simp <;> omega) _ | with_reducible refine bpl ?_ _ _ | with_reducible refine bal ?_ _ | with_reducible refine bdrew1 ?_ | with_reducible refine bdrew ?_ _))⟩
  case round =>
    obtain ⟨k, hk, rfl, hA, hB⟩ := hrel
    have hzz := hB.size
    by_cases hlt : k < M
    · have hk8 : (k : Int) < (M : Int) := by omega
      have hsh := HSH.out
      go_wp2_with fail
      clear hsh
      obtain ⟨W0, rfl⟩ : ∃ x, x = wr := ⟨_, rfl⟩
      go_loopw [7, 8] (fun r j wq => ∃ (l : Nat), l ≤ n ∧ j = .int .i64 l ∧ Hid (AppI W0.heap.size wq r (bitL k l)) ∧ Below W0.heap.size W0 wq) (fun _ j _ => n - (intOf j).toNat)
      case atStart => exact ⟨0, Nat.zero_le _, rfl, Lib.hid (AppI.new (blknew _ _) (Nat.le_refl _)), (by (try with_reducible refine bsz ?_); repeat (first | with_reducible exact Below.refl _ _ | ((with_reducible refine bpre ?_); (try simp only [Array.append_assoc]); repeat (first | with_reducible exact Pre.refl _ | with_reducible exact Pre.base _ _ | with_reducible refine Pre.cons _ ?_)) | with_reducible assumption | ((with_reducible refine bsetr ?_); rfl) | with_reducible refine Below.setCell ?_ (by simp <;> omega) _ | with_reducible refine bpl ?_ _ _ | with_reducible refine bal ?_ _ | with_reducible refine bdrew1 ?_ | with_reducible refine bdrew ?_ _))⟩
      case round =>
        obtain ⟨l, hl, rfl, hA1, hB1⟩ := hrel
        have hz1 := hB1.size
        by_cases hlt2 : l < n
        · have hl8 : (l : Int) < (n : Int) := by omega
          cases hbt : (bits .and .i64 (shrW (k : Int) l) 1 == 1)
          · have hbb : Hid (bitB k l = false) := Lib.hid hbt
            go_wp2_with fail
            go_roundw
            case rel => exact ⟨l + 1, by omega, by go_num, Lib.hid (by rw [bitL_succ, hbb.out]; exact hA1.out), hB1⟩
            case measure => simp [intOf]; omega
          · have hbb : Hid (bitB k l = true) := Lib.hid hbt
            have hq : Hid ((bitL k l).length ≤ l) := Lib.hid (bitL_len k l)
            have hW := Lib.hid (hA1.out.below (w' := wr.alloc (.cells #[.int .i64 l] 2)) ((bal (Below.refl _ _) _)))
            go_wp2_with (at_builtin; refine wpList_append_lies _ rfl (.tmp 29) (.tmp 31) 73 rfl W0.heap.size 2 i1 z1 1 8 Try.underlying73 I1.out Z1.out hs1 hb1 hl1 (by decide) u7 (bitL k l).length _ rfl hW.out.1 ⟨wr.heap.size, 0, none⟩ 1 1 [.int .i64 l] rfl rfl (World.news_of_block (blknew _ _)) (by simp [Value.oneCell']) (by decide) (by have := hq.out; unfold maxLen; omega) (by have := hq.out; omega) (by simp; omega) _ rfl ?_; intro g1 cap1 w2 hown hgrow hat hlt3)
            go_roundw
            case rel =>
              have hN := hW.out.next (okN (n := l) (by omega)) hown
              have hAo := hA1.out.ge
              have hb2 := grown_below (B := W0.heap.size) hgrow (fun q hq => (hAo q hq).1) (by simp; omega)
              exact ⟨l + 1, by omega, by go_num, Lib.hid (by rw [bitL_succ, hbb.out]; exact hN), (hB1.trans ((bal (Below.refl _ _) _).mono (by omega))).trans hb2⟩
            case measure => simp [intOf]; omega
        · have e : l = n := by omega
          subst e
          obtain ⟨F1, hO1⟩ := hA1.out.own
          obtain ⟨A1, cap1, rfl⟩ := hA1.out.form
          have HO1 := Lib.hid hO1
          obtain ⟨Q, hQ, hQl⟩ : ∃ Q : Nat, Hid ((bitL k l).length = Q) ∧ Q ≤ l := ⟨_, Lib.hid rfl, bitL_len k l⟩
          rw [hQ.out] at HO1 ⊢
          have hqq : Hid ((decide ((bitL k l).length = q)) = ((Q : Int) == (q : Int))) := Lib.hid (by rw [hQ.out, Bool.eq_iff_iff]; simp; omega)
          clear hO1
          cases hqe : ((Q : Int) == (q : Int))
          · have hst : Hid (stTo q l (k + 1) = stTo q l k) := Lib.hid (by
              have h1 := hqq.out
              rw [hqe] at h1
              rw [stTo_succ, if_neg (by simpa using h1)])
            go_wp2_with fail
            go_roundw
            case rel => exact ⟨k + 1, by omega, by go_num, Lib.hid (by rw [hst.out]; exact hA.out.below hB1), hB.trans (hB1.mono hB.size)⟩
            case measure => simp [intOf]; omega
          · have hst : Hid (stTo q l (k + 1) = stTo q l k ++ [bitL k l]) := Lib.hid (by
              have h1 := hqq.out
              rw [hqe] at h1
              rw [stTo_succ, if_pos (by simpa using h1)])
            have hml := Lib.hid (stTo_len q l k)
            obtain ⟨L, F, hW00⟩ := hA.out
            have hFb : Hid (∀ b ∈ F, b < W0.heap.size) := Lib.hid hW00.2.1.lt
            have hW0 := hW00.move (w' := wr) (fun b h1 h2 => hB1.block b h2)
            have hW := Lib.hid (hW0.move (w' := wr.alloc (.cells #[.slice A1 Q cap1] 73)) (fun b _ hl => Below.heap_alloc wr _ b hl))
            clear hW0 hW00
            go_wp2_with (at_builtin; refine wpList_append_lies _ rfl (.tmp 37) (.tmp 39) 69 rfl w.heap.size 73 i2 z2 1 24 Try.underlying69 I2.out Z2.out hs2 hb2 hl2 (by decide) u5 (stTo q l k).length L rfl hW.out.1 ⟨wr.heap.size, 0, none⟩ 1 1 [.slice A1 Q cap1] rfl rfl (World.news_of_block (blknew _ _)) (by simp [Value.oneCell']) (by decide) (by have := hml.out; unfold maxLen; omega) (by have := hml.out; omega) (by simp; omega) _ rfl ?_; intro g1 cap2 w2 hown hgrow hat hlt3)
            go_roundw
            case rel =>
              have hOw : (shL (shI .i64)).own (wr.alloc (.cells #[.slice A1 Q cap1] 73)) (bitL k l) [.slice A1 Q cap1] F1 := (shL (shI .i64)).ownKeep _ _ _ _ _ (fun b hb => Below.heap_alloc wr _ b (HO1.out.lt b hb)) HO1.out.1
              have hAo := hA.out.ge
              have hFo := hFb.out
              have hN := hW.out.next (s := shL (shI .i64)) (d := bitL k l) hOw HO1.out.2.1 (fun b hb => by have := HO1.out.2.2 b hb; omega) (fun b hb hb2 => by have := HO1.out.2.2 b hb; have := hFo b hb2; omega) (fun q hq hb => by have := HO1.out.2.2 q hb; have := (hAo q hq).2; omega) hown hgrow hat
              have hb1 : Below w.heap.size w (wr.alloc (.cells #[.slice A1 Q cap1] 73)) := (hB.trans (hB1.mono hB.size)).alloc (by omega) _
              have hb2 := grown_below (B := w.heap.size) hgrow (fun q hq => (hAo q hq).1) (by simp; omega)
              exact ⟨k + 1, by omega, by go_num, Lib.hid (by rw [hst.out]; exact hN), hb1.trans hb2⟩
            case measure => simp [intOf]; omega
    · have e : k = M := by omega
      subst e
      obtain ⟨A1, cap1, F1, rfl, hO⟩ := hA.out.own
      have hst : Hid (stTo q n k = stL q n) := Lib.hid (by unfold stL; rw [hM.out])
      rw [hst.out] at hO ⊢
      have HO := Lib.hid hO
      clear hO
      have hsh := HSH.out
      go_wp2_with fail
      exact bodyPost_ret (v := .slice A1 (stL q n).length cap1) (by simp [results, Try.results138, go_sem]) rfl ⟨A1, cap1, F1, rfl, HO.out, hB⟩
end Go.Proofs.Ytkfjlimlodbcgaa

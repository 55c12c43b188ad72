/- spec.l01On, spec.l03Type. -/
import Derived.Test.YtbpamifkfbcloaaGn
import Derived.Test.YtbpamifkfbcloaaRg
namespace Go.Proofs.Ytbpamifkfbcloaa
open Go.ChangeShapes Go.WideShapes Go.RowKit
set_option linter.unusedVariables false
set_option linter.unusedSimpArgs false
attribute [local irreducible] Calls
theorem VL_seq {n : Nat} (h : n ≤ 5) : VL (seqI n) := by
  have h1 : n = 0 ∨ n = 1 ∨ n = 2 ∨ n = 3 ∨ n = 4 ∨ n = 5 := by omega
  rcases h1 with rfl | rfl | rfl | rfl | rfl | rfl <;> exact VL.of (by decide)
set_option maxHeartbeats 1000000 in
theorem l01On_any (w : World) (m e : Int) (L : List Int) (v : Value) (h : Lst (shI .i64) w L v) (hL : VL L) :
    Calls Try.prog 76 #[.agg #[.int .i64 m, .int .u32 e], v] w fun e0 w' => e0 = .returned (.agg #[.int .i64 L.length, .int .u32 (onE e L)]) ∧ Below w.heap.size w w' := by
  obtain ⟨A, cap, rfl, hc, hm, hel⟩ := lstI h
  have H1 := Lib.hid hel
  have HL := Lib.hid hL
  have hl5 := hL.1
  clear hel hL
  unfold maxLen at hm
  have hE : Hid (onE e L = madeE (fun i j => hasE e (gi L i) (gi L j)) L.length) := Lib.hid rfl
  generalize hP : (fun i j => hasE e (gi L i) (gi L j)) = P at hE
  have HP : Hid (∀ i j, P i j = hasE e (gi L i) (gi L j)) := Lib.hid (by intro i j; rw [← hP])
  clear hP
  go_enter Try.func76, Try.ntmps76
  go_wp2_with fail
  go_loopw [6] (fun i wr => ∃ (k : Nat), 1 ≤ k ∧ k ≤ max 1 L.length ∧ i = .int .i64 k ∧ wr.heap[w.heap.size + 2]? = some (.cells #[.int .i64 L.length, .int .u32 (madeE P k)] 27 (0, 0)) ∧ wr.heap[w.heap.size]? = some (.cells #[.int .i64 m, .int .u32 e] 27 (0, 0)) ∧ (∃ u v, wr.heap[w.heap.size + 1]? = some (.cells #[u, v] 27 (0, 0))) ∧ Below w.heap.size w wr) (fun i _ => 6 - (intOf i).toNat)
  case atStart => exact ⟨1, Nat.le_refl _, Nat.le_max_left _ _, rfl, (by rw [show madeE P 1 = 0 from rfl]; exact (by repeat (first | with_reducible assumption | with_reducible refine pls_block _ _ ?_ | with_reducible apply blkset2 | with_reducible apply blkset1 | ((with_reducible refine blksetN ?_ ?_ _); (focus (simp <;> omega))) | with_reducible exact blknew _ _ | ((with_reducible refine blknew' _ _ _ ?_); (simp <;> omega)) | with_reducible refine blkal ?_ _))), (by repeat (first | with_reducible assumption | with_reducible refine pls_block _ _ ?_ | with_reducible apply blkset2 | with_reducible apply blkset1 | ((with_reducible refine blksetN ?_ ?_ _); (focus (simp <;> omega))) | with_reducible exact blknew _ _ | ((with_reducible refine blknew' _ _ _ ?_); (simp <;> omega)) | with_reducible refine blkal ?_ _)), ⟨_, _, (by repeat (first | with_reducible assumption | with_reducible refine pls_block _ _ ?_ | with_reducible apply blkset2 | with_reducible apply blkset1 | ((with_reducible refine blksetN ?_ ?_ _); (focus (simp <;> omega))) | with_reducible exact blknew _ _ | ((with_reducible refine blknew' _ _ _ ?_); (simp <;> omega)) | with_reducible refine blkal ?_ _))⟩, (by (try with_reducible refine bsz ?_); repeat (first | with_reducible exact Below.refl _ _ | ((with_reducible refine bpre ?_); (try simp only [Array.append_assoc]); repeat (first | with_reducible exact Pre.refl _ | with_reducible exact Pre.base _ _ | with_reducible refine Pre.cons _ ?_)) | with_reducible assumption | ((with_reducible refine bsetr ?_); rfl) | with_reducible refine Below.setCell ?_ (by simp <;> omega) _ | with_reducible refine bpl ?_ _ _ | with_reducible refine bal ?_ _ | with_reducible refine bdrew1 ?_ | with_reducible refine bdrew ?_ _))⟩
  case round =>
    obtain ⟨k, hk1, hk, rfl, b0, bg, ⟨u0, v0, b1⟩, hB⟩ := hrel
    obtain ⟨s0, s1, f0, f1⟩ := blk2 b0
    obtain ⟨s2, s3, f2, f3⟩ := blk2 b1
    have z0 := blklt b0
    have z1 := blklt b1
    by_cases hlt : k < L.length
    · have hk8 : (k : Int) < 9223372036854775807 := by omega
      have B0 := Lib.hid b0
      have B1 := Lib.hid b1
      have BG := Lib.hid bg
      clear b0 b1 bg
      go_wp2_with fail
      have HB := Lib.hid hB
      obtain ⟨W0, rfl⟩ : ∃ x, x = wr := ⟨_, rfl⟩
      go_loopw [7] (fun i wr => ∃ (l : Nat), l ≤ k ∧ i = .int .i64 l ∧ wr.heap[w.heap.size + 2]? = some (.cells #[.int .i64 L.length, .int .u32 (rowE P k l (madeE P k))] 27 (0, 0)) ∧ wr.heap[w.heap.size]? = some (.cells #[.int .i64 m, .int .u32 e] 27 (0, 0)) ∧ wr.heap[w.heap.size + 1]? = some (.cells #[u0, v0] 27 (0, 0)) ∧ Below w.heap.size w wr) (fun i _ => k - (intOf i).toNat)
      case atStart => exact ⟨0, Nat.zero_le _, rfl, B0.out, BG.out, B1.out, hB⟩
      case round =>
        clear s0 s1 s2 s3 f0 f1 f2 f3 z0 z1 B0 B1 BG hB HB
        obtain ⟨l, hl, rfl, b0, bg, b1, hB⟩ := hrel
        obtain ⟨s0, s1, f0, f1⟩ := blk2 b0
        obtain ⟨s4, s5, f4, f5⟩ := blk2 bg
        have z0 := blklt b0
        have z1 := blklt b1
        have z2 := blklt bg
        have B0 := Lib.hid b0
        have B1 := Lib.hid b1
        have BG := Lib.hid bg
        clear b0 b1 bg
        by_cases hlt2 : l < k
        · have hl8 : (l : Int) < 9223372036854775807 := by omega
          obtain ⟨bl, off, rfl, hel⟩ := H1.out (by omega)
          have c1 := hel l (by omega)
          have c2 := hel k hlt
          have zb : bl < w.heap.size := World.block_lt_of_cell? _ _ c1
          replace c1 := bkeep hB c1
          replace c2 := bkeep hB c2
          have g1 := HL.out.2.1 l (by omega)
          have g2 := HL.out.2.1 k hlt
          have g3 := HL.out.2.2 l k hlt2 hlt
          have G3 := Lib.hid g3
          have hll' : (l : Int) < (L.length : Int) := by omega
          have hkk' : (k : Int) < (L.length : Int) := by omega
          have hzz := hB.size
          have zb2 : bl < wr.heap.size := by omega
          clear hel g3
          cases hp : P l k
          · have hr : Hid (rowE P k (l + 1) (madeE P k) = rowE P k l (madeE P k)) := Lib.hid (by simp [rowE, hp])
            rw [HP.out] at hp
            have Hp := Lib.hid hp
            clear hp
            go_wp2_with fail
            go_region_held3 (fun w' => w'.cell? ⟨w.heap.size, 0, none⟩ = some (.int .i64 m) ∧ w'.cell? ⟨w.heap.size, 1, none⟩ = some (.int .u32 e) ∧ w'.cell? ⟨bl, off + l, none⟩ = some (.int .i64 (gi L l)) ∧ w'.cell? ⟨bl, off + k, none⟩ = some (.int .i64 (gi L k))) (simp [*, go_sem]) (first | (go_at_call 107; refine Calls.mono ((Hp.out ▸ l01Joined_any m e _ _ _ g1 g2 G3.out)) ?_; rintro e w1 ⟨rfl, hb⟩; obtain ⟨X, m, rfl⟩ := plsOf hb; clear hb))
            all_goals (go_wp2_with fail)
            all_goals (
              go_roundw
              case rel =>
                have b0 := B0.out
                have b1 := B1.out
                have bg := BG.out
                exact ⟨l + 1, by omega, by go_num, by rw [hr.out]; exact (by repeat (first | with_reducible assumption | with_reducible refine pls_block _ _ ?_ | with_reducible apply blkset2 | with_reducible apply blkset1 | ((with_reducible refine blksetN ?_ ?_ _); (focus (simp <;> omega))) | with_reducible exact blknew _ _ | ((with_reducible refine blknew' _ _ _ ?_); (simp <;> omega)) | with_reducible refine blkal ?_ _)), (by repeat (first | with_reducible assumption | with_reducible refine pls_block _ _ ?_ | with_reducible apply blkset2 | with_reducible apply blkset1 | ((with_reducible refine blksetN ?_ ?_ _); (focus (simp <;> omega))) | with_reducible exact blknew _ _ | ((with_reducible refine blknew' _ _ _ ?_); (simp <;> omega)) | with_reducible refine blkal ?_ _)), (by repeat (first | with_reducible assumption | with_reducible refine pls_block _ _ ?_ | with_reducible apply blkset2 | with_reducible apply blkset1 | ((with_reducible refine blksetN ?_ ?_ _); (focus (simp <;> omega))) | with_reducible exact blknew _ _ | ((with_reducible refine blknew' _ _ _ ?_); (simp <;> omega)) | with_reducible refine blkal ?_ _)), (by (try with_reducible refine bsz ?_); repeat (first | with_reducible exact Below.refl _ _ | ((with_reducible refine bpre ?_); (try simp only [Array.append_assoc]); repeat (first | with_reducible exact Pre.refl _ | with_reducible exact Pre.base _ _ | with_reducible refine Pre.cons _ ?_)) | with_reducible assumption | ((with_reducible refine bsetr ?_); rfl) | with_reducible refine Below.setCell ?_ (by simp <;> omega) _ | with_reducible refine bpl ?_ _ _ | with_reducible refine bal ?_ _ | with_reducible refine bdrew1 ?_ | with_reducible refine bdrew ?_ _))⟩
              case measure => simp [intOf]; omega)
          · have hr : Hid (rowE P k (l + 1) (madeE P k) = setE (rowE P k l (madeE P k)) l k) := Lib.hid (by simp [rowE, hp])
            rw [HP.out] at hp
            have Hp := Lib.hid hp
            clear hp
            go_wp2_with fail
            go_region_held3 (fun w' => w'.cell? ⟨w.heap.size, 0, none⟩ = some (.int .i64 m) ∧ w'.cell? ⟨w.heap.size, 1, none⟩ = some (.int .u32 e) ∧ w'.cell? ⟨bl, off + l, none⟩ = some (.int .i64 (gi L l)) ∧ w'.cell? ⟨bl, off + k, none⟩ = some (.int .i64 (gi L k))) (simp [*, go_sem]) (first | (go_at_call 107; refine Calls.mono ((Hp.out ▸ l01Joined_any m e _ _ _ g1 g2 G3.out)) ?_; rintro e w1 ⟨rfl, hb⟩; obtain ⟨X, m, rfl⟩ := plsOf hb; clear hb))
            all_goals (go_wp2_with fail)
            all_goals (go_region_law (first | (go_simp; go_at_call 108; refine Calls.mono (l01Bit_any l k _ (by omega) (by omega)) ?_; rintro e w1 ⟨rfl, rfl⟩)))
            all_goals (go_wp2_with fail)
            all_goals (
              go_roundw
              case rel =>
                have b0 := B0.out
                have b1 := B1.out
                have bg := BG.out
                exact ⟨l + 1, by omega, by go_num, by rw [hr.out]; (repeat (first | with_reducible refine pls_block _ _ ?_ | exact blkset21 b0 _)), (by repeat (first | with_reducible assumption | with_reducible refine pls_block _ _ ?_ | with_reducible apply blkset2 | with_reducible apply blkset1 | ((with_reducible refine blksetN ?_ ?_ _); (focus (simp <;> omega))) | with_reducible exact blknew _ _ | ((with_reducible refine blknew' _ _ _ ?_); (simp <;> omega)) | with_reducible refine blkal ?_ _)), (by repeat (first | with_reducible assumption | with_reducible refine pls_block _ _ ?_ | with_reducible apply blkset2 | with_reducible apply blkset1 | ((with_reducible refine blksetN ?_ ?_ _); (focus (simp <;> omega))) | with_reducible exact blknew _ _ | ((with_reducible refine blknew' _ _ _ ?_); (simp <;> omega)) | with_reducible refine blkal ?_ _)), (by (try with_reducible refine bsz ?_); repeat (first | with_reducible exact Below.refl _ _ | ((with_reducible refine bpre ?_); (try simp only [Array.append_assoc]); repeat (first | with_reducible exact Pre.refl _ | with_reducible exact Pre.base _ _ | with_reducible refine Pre.cons _ ?_)) | with_reducible assumption | ((with_reducible refine bsetr ?_); rfl) | with_reducible refine Below.setCell ?_ (by simp <;> omega) _ | with_reducible refine bpl ?_ _ _ | with_reducible refine bal ?_ _ | with_reducible refine bdrew1 ?_ | with_reducible refine bdrew ?_ _))⟩
              case measure => simp [intOf]; omega)
        · have e : l = k := by omega
          subst e
          go_wp2_with fail
          go_roundw
          case rel => exact ⟨l + 1, by omega, by omega, by go_num, B0.out, BG.out, ⟨_, _, B1.out⟩, hB⟩
          case measure => simp [intOf]; omega
    · have hEq : madeE P k = madeE P L.length := by
        rcases Nat.eq_zero_or_pos L.length with h0 | h0
        · have : k = 1 := by omega
          rw [this, h0]; rfl
        · have : k = L.length := by omega
          rw [this]
      rw [hEq] at s1 b0
      clear hEq b0
      go_wp2_with fail
      exact bodyPost_ret (v := .agg #[.int .i64 L.length, .int .u32 (madeE P L.length)]) (by simp [results, Try.results76, go_sem, *]) rfl ⟨by rw [hE.out], (by (try with_reducible refine bsz ?_); repeat (first | with_reducible exact Below.refl _ _ | ((with_reducible refine bpre ?_); (try simp only [Array.append_assoc]); repeat (first | with_reducible exact Pre.refl _ | with_reducible exact Pre.base _ _ | with_reducible refine Pre.cons _ ?_)) | with_reducible assumption | ((with_reducible refine bsetr ?_); rfl) | with_reducible refine Below.setCell ?_ (by simp <;> omega) _ | with_reducible refine bpl ?_ _ _ | with_reducible refine bal ?_ _ | with_reducible refine bdrew1 ?_ | with_reducible refine bdrew ?_ _))⟩
theorem l03Type_any (w : World) (k : Nat) (n e : Int) (hk : k ≤ 5) : Calls Try.prog 32 #[.agg #[.int .i64 k, .int .i64 n, .int .u32 e]] w fun e0 w' => e0 = .returned (.agg #[.int .i64 k, .int .u32 (onE e (seqI k))]) ∧ Below w.heap.size w w' := by
  go_enter Try.func32, Try.ntmps32
  go_wp2_with fail
  (refine wp_region_held_drew (S := (fun w' => w'.cell? ⟨w.heap.size, 0, none⟩ = some (.int .i64 k) ∧ w'.cell? ⟨w.heap.size, 1, none⟩ = some (.int .i64 n) ∧ w'.cell? ⟨w.heap.size, 2, none⟩ = some (.int .u32 e))) (by kernel_rfl) ?_ (fun hHeld => ?_); (focus (simp [*, go_sem])); refine rg_take 0 (some 3) (v := ?_) rfl (by kernel_rfl) (by kernel_rfl) (by kernel_rfl) (by kernel_rfl) (fun _ _ _ h => h) (Or.inl ⟨by kernel_rfl, ?_⟩) (by assumption) ?_; rotate_left; (focus (intro w' hSw; (try dsimp only at hSw); go_simp; (try with_reducible rfl))); (try simp only [Act.put, List.setIfInBounds_toArray, List.set_cons_zero, List.set_cons_succ]); refine rg_take 1 (some 4) (v := ?_) rfl (by kernel_rfl) (by kernel_rfl) (by kernel_rfl) (by kernel_rfl) (fun _ _ _ h => h) (Or.inl ⟨by kernel_rfl, ?_⟩) (by assumption) ?_; rotate_left; (focus (intro w' hSw; (try dsimp only at hSw); go_simp; (try with_reducible rfl))); (try simp only [Act.put, List.setIfInBounds_toArray, List.set_cons_zero, List.set_cons_succ]); refine rg_take 2 (some 5) (v := ?_) rfl (by kernel_rfl) (by kernel_rfl) (by kernel_rfl) (by kernel_rfl) (fun _ _ _ h => h) (Or.inl ⟨by kernel_rfl, ?_⟩) (by assumption) ?_; rotate_left; (focus (intro w' hSw; (try dsimp only at hSw); go_simp; (try with_reducible rfl))); (try simp only [Act.put, List.setIfInBounds_toArray, List.set_cons_zero, List.set_cons_succ]); refine rg_take 3 (some 6) (v := ?_) rfl (by kernel_rfl) (by kernel_rfl) (by kernel_rfl) (by kernel_rfl) (fun _ _ _ h => h) (Or.inl ⟨by kernel_rfl, ?_⟩) (by assumption) ?_; rotate_left; (focus (intro w' hSw; (try dsimp only at hSw); go_simp; (try with_reducible rfl))); (try simp only [Act.put, List.setIfInBounds_toArray, List.set_cons_zero, List.set_cons_succ]); refine wpAnyH_ready (rs := [4]) (by kernel_rfl) (by simp) ?_; refine AllReadyH.cons rfl (fun K hK => ?_) AllReadyH.nil; go_simp; (go_at_call 77; refine Calls.mono (l01First_any _ k (by omega)) ?_; rintro e0 w1 ⟨v7, rfl, hA7, hb⟩; obtain ⟨X7, m7, rfl⟩ := plsOf hb; clear hb; (try simp only [pls_pls, drew_pls, drewN_pls, pls_drew, pls_drewN] at hA7); have hA7 := Lib.hid hA7); go_wp2_with fail; refine hK.out _ _ ?_ (fun hHeld => ?_); (focus (simp [*, go_sem])); clear hK K; (try simp only [Act.put, List.setIfInBounds_toArray, List.set_cons_zero, List.set_cons_succ]); refine wpAnyH_ready (rs := [5]) (by kernel_rfl) (by simp) ?_; refine AllReadyH.cons rfl (fun K hK => ?_) AllReadyH.nil; go_simp; (go_at_call 76; refine Calls.mono (l01On_any _ n e (seqI k) _ (hA7.out.lst.below (by (try with_reducible refine bsz ?_); repeat (first | with_reducible exact Below.refl _ _ | ((with_reducible refine bpre ?_); (try simp only [Array.append_assoc]); repeat (first | with_reducible exact Pre.refl _ | with_reducible exact Pre.base _ _ | with_reducible refine Pre.cons _ ?_)) | with_reducible assumption | ((with_reducible refine bsetr ?_); rfl) | with_reducible refine Below.setCell ?_ (by simp <;> omega) _ | with_reducible refine bpl ?_ _ _ | with_reducible refine bal ?_ _ | with_reducible refine bdrew1 ?_ | with_reducible refine bdrew ?_ _))) (VL_seq hk)) ?_; rw [seqI_len]; rintro e0 w1 ⟨rfl, hb⟩; obtain ⟨X8, m8, rfl⟩ := plsOf hb; clear hb); go_wp2_with fail; refine hK.out _ _ ?_ (fun hHeld => ?_); (focus (simp [*, go_sem])); clear hK K; (try simp only [Act.put, List.setIfInBounds_toArray, List.set_cons_zero, List.set_cons_succ]); refine wpAnyH_ready (rs := [6]) (by kernel_rfl) (by simp) ?_; refine AllReadyH.cons rfl (fun K hK => ?_) AllReadyH.nil; go_simp; refine hK.out _ _ ?_ (fun hHeld => ?_); (focus (simp [*, go_sem])); clear hK K; (try simp only [Act.put, List.setIfInBounds_toArray, List.set_cons_zero, List.set_cons_succ]); refine wpAnyH_done (by kernel_rfl) ?_ _)
  clear hHeld
  go_wp2_with fail
  exact bodyPost_ret (v := .agg #[.int .i64 k, .int .u32 (onE e (seqI k))]) (by simp [results, Try.results32, go_sem, *]) rfl ⟨rfl, (by (try with_reducible refine bsz ?_); repeat (first | with_reducible exact Below.refl _ _ | ((with_reducible refine bpre ?_); (try simp only [Array.append_assoc]); repeat (first | with_reducible exact Pre.refl _ | with_reducible exact Pre.base _ _ | with_reducible refine Pre.cons _ ?_)) | with_reducible assumption | ((with_reducible refine bsetr ?_); rfl) | with_reducible refine Below.setCell ?_ (by simp <;> omega) _ | with_reducible refine bpl ?_ _ _ | with_reducible refine bal ?_ _ | with_reducible refine bdrew1 ?_ | with_reducible refine bdrew ?_ _))⟩
end Go.Proofs.Ytbpamifkfbcloaa

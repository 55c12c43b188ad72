/- spec.AllOnes. -/
import Derived.Test.YtfdobpeekipafaaAo
namespace Go.Proofs.Ytfdobpeekipafaa
open Go.ChangeShapes Go.WideShapes Go.RowKit
set_option linter.unusedVariables false
set_option linter.unusedSimpArgs false
attribute [local irreducible] Calls
theorem afC_ao (tn te n : Int) : afC tn te n [] = aoC tn te n := by
  unfold afC aoC tyC
  rw [if_pos (show forbC [] = 0 from rfl)]
  split
  · split
    · rw [if_pos rfl]
    · rfl
  · rfl
theorem cells3_of {w4 w' w3 : World} {bl i : Nat} {u v x : Value} (h1 : w4.heap[bl]? = w'.heap[bl]?) (h2 : w'.heap[bl]? = w3.heap[bl]?) (c0 : w3.cell? ⟨bl, i, none⟩ = some u) (c1 : w3.cell? ⟨bl, i + 1, none⟩ = some v) (c2 : w3.cell? ⟨bl, i + 2, none⟩ = some x) : w4.cell? ⟨bl, i, none⟩ = some u ∧ w4.cell? ⟨bl, i + 1, none⟩ = some v ∧ w4.cell? ⟨bl, i + 2, none⟩ = some x :=
  ⟨(World.cell?_of_block (h1.trans h2)).trans c0, (World.cell?_of_block (h1.trans h2)).trans c1, (World.cell?_of_block (h1.trans h2)).trans c2⟩
theorem okOne : okFr (1, 1) := ⟨by decide, by decide⟩
theorem own_bl {B : Nat} {w : World} {xs : List shFlag.T} {bl off n cap : Nat} {F : List Nat} (h : Own shFlag B w xs (.slice (some ⟨bl, off, none⟩) n cap) F) (hp : 0 < xs.length) : bl ∈ F := by
  obtain ⟨⟨A, c, hv, _, _, h4⟩, _, _⟩ := h
  rcases h4 with ⟨rfl, _⟩ | ⟨g, cur, t, Fs, e, _, _, hF, _⟩
  · exact absurd hp (Nat.lt_irrefl 0)
  · subst e
    have : bl = g := by simp at hv; exact hv.1.1
    rw [hF, this]
    simp
set_option maxHeartbeats 4000000 in
theorem sAllOnes_any (tn te n : Int) (w : World) (he : 0 ≤ te ∧ te ≤ 4294967295) :
    Calls Try.prog 9 #[.agg #[.int .i64 tn, .int .u32 te], .int .i64 n] w (SumRet w.heap.size w (aoC tn te n) (tdT (aoC tn te n) (tn, te)) (tdS (aoC tn te n) n) (aoL tn te n)) := by
  cases hc : (tyC tn te n != 0)
  rotate_left
  · have h0 : tyC tn te n ≠ 0 := by simpa using hc
    have hao : Hid (aoC tn te n = tyC tn te n) := Lib.hid (by unfold aoC; rw [if_neg h0])
    have hl : Hid (aoL tn te n = []) := Lib.hid (by unfold aoL tdL; rw [hao.out, if_neg h0])
    have HT : Hid (tdT (tyC tn te n) (tn, te) = (0, 0) ∧ tdS (tyC tn te n) n = 0) := Lib.hid ⟨by unfold tdT; rw [if_neg h0], by unfold tdS; rw [if_neg h0]⟩
    have HZ := Lib.hid (sZeroSum_any tn te n (he := he))
    obtain ⟨T, hT⟩ : ∃ T, Hid (tyC tn te n = T) := ⟨_, Lib.hid rfl⟩
    rw [hT.out] at hc HZ
    clear h0
    go_enter Try.func9, Try.ntmps9
    go_wp2_with (first | (go_at_call 36; refine Calls.mono (HZ.out _) ?_; rintro e w1 ⟨rfl, hb⟩; obtain ⟨X, m, rfl⟩ := plsOf hb; clear hb))
    refine bodyPost_ret (v := .tuple #[.agg #[.int .i64 0, .int .u32 0, .int .i64 0, .slice none 0 0], .int .i64 T]) (by simp [results, Try.results9, go_sem, *]) rfl ?_
    rw [hao.out, hl.out]
    exact sumRet_no HT.out.1 HT.out.2 rfl (by (try with_reducible refine bsz ?_); repeat (first | with_reducible exact Below.refl _ _ | ((with_reducible refine bpre ?_); (try simp only [Array.append_assoc]); repeat (first | with_reducible exact Pre.refl _ | with_reducible exact Pre.base _ _ | with_reducible refine Pre.cons _ ?_)) | with_reducible assumption | ((with_reducible refine bsetr ?_); rfl) | with_reducible refine Below.setCell ?_ (by simp <;> omega) _ | with_reducible refine bpl ?_ _ _ | with_reducible refine bal ?_ _ | with_reducible refine bdrew1 ?_ | with_reducible refine bdrew ?_ _)) hT.out
  · have h0 : tyC tn te n = 0 := by simpa using hc
    obtain ⟨i1, zv1, hi1, hz1, hsz1, hby1, hl1⟩ := infoB_spec (P := Try.prog) (e := 74) (sz := 5) (bytes := 40) (by kernel_rfl)
    have I1 := Lib.hid hi1
    have Z1 := Lib.hid hz1
    clear hi1 hz1
    have HZ : Hid (∀ w, Calls Try.prog 36 #[.agg #[.int .i64 tn, .int .u32 te], .int .i64 n] w fun e0 w' => e0 = .returned (.tuple #[.agg #[.int .i64 tn, .int .u32 te, .int .i64 n, .slice none 0 0], .int .i64 0]) ∧ Below w.heap.size w w') := Lib.hid fun w => by
      have := sZeroSum_any tn te n w he
      rw [h0] at this
      exact this
    have HAF : Hid (∀ w v, Lst shGr w [] v → Calls Try.prog 37 #[.agg #[.int .i64 tn, .int .u32 te], .int .i64 n, v] w (FlsCode w.heap.size w (afL tn te n []) (aoC tn te n))) := Lib.hid fun w v h => by
      have := sAllFlags_any w tn te n [] v h he
      rw [afC_ao] at this
      exact this
    have hcode : aoC tn te n = 0 ∨ aoC tn te n = 3 := by unfold aoC; rw [if_pos h0]; split <;> simp
    have hflg : Hid (aoC tn te n = 0 → afL tn te n [] = flagsF tn.toNat te n.toNat [] ∧ (flagsF tn.toNat te n.toNat []).length ≤ 64) := Lib.hid fun h => ⟨by unfold afL; rw [afC_ao]; exact if_pos h, by
      unfold aoC at h
      rw [if_pos h0] at h
      split at h
      · rename_i h1; exact (show (flagsF tn.toNat te n.toNat []).length = _ from List.length_map _) ▸ h1
      · omega⟩
    clear hc h0
    rcases hcode with hcode | hcode
    · have hao := Lib.hid hcode
      obtain ⟨hfl1, hfl2⟩ := hflg.out hcode
      rw [hcode] at HAF
      obtain ⟨GL, hGL, N, hN, hN64⟩ : ∃ GL : List shFlag.T, Hid ((show List shFlag.T from flagsF tn.toNat te n.toNat []) = GL) ∧ ∃ N : Nat, Hid (GL.length = N) ∧ N ≤ 64 := ⟨_, Lib.hid rfl, _, Lib.hid rfl, hfl2⟩
      have hl : Hid (aoL tn te n = ovX GL oneD) := Lib.hid (by unfold aoL tdL; rw [hcode, if_pos rfl]; exact congrArg (fun L => ovX L oneD) hGL.out)
      have hfl : afL tn te n [] = GL := hfl1.trans hGL.out
      rw [hfl] at HAF
      clear hcode hfl1 hfl2 hfl hflg
      go_enter Try.func9, Try.ntmps9
      go_wp2_with fail
      refine Calls.mono (HZ.out _) ?_
      rintro e0 w1 ⟨rfl, hb⟩
      have k0 : w1.heap[w.heap.size]? = some (.cells #[.int .i64 tn, .int .u32 te] 25 (0, 0)) := bblk hb (by simp <;> omega) (by repeat (first | with_reducible assumption | with_reducible refine pls_block _ _ ?_ | with_reducible apply blkset2 | with_reducible apply blkset1 | ((with_reducible refine blksetN ?_ ?_ _); (focus (simp <;> omega))) | with_reducible exact blknew _ _ | ((with_reducible refine blknew' _ _ _ ?_); (simp <;> omega)) | with_reducible refine blkal ?_ _))
      have k1 : w1.heap[w.heap.size + 1]? = some (.cells #[.int .i64 0, .int .u32 0, .int .i64 0, .slice none 0 0] 28 (0, 0)) := bblk hb (by simp <;> omega) (by repeat (first | with_reducible assumption | with_reducible refine pls_block _ _ ?_ | with_reducible apply blkset2 | with_reducible apply blkset1 | ((with_reducible refine blksetN ?_ ?_ _); (focus (simp <;> omega))) | with_reducible exact blknew _ _ | ((with_reducible refine blknew' _ _ _ ?_); (simp <;> omega)) | with_reducible refine blkal ?_ _))
      have hz1 : w.heap.size + 1 + 1 ≤ w1.heap.size := by have := hb.size; simp at this; omega
      have hb1 : Below w.heap.size w w1 := Below.trans (by (try with_reducible refine bsz ?_); repeat (first | with_reducible exact Below.refl _ _ | ((with_reducible refine bpre ?_); (try simp only [Array.append_assoc]); repeat (first | with_reducible exact Pre.refl _ | with_reducible exact Pre.base _ _ | with_reducible refine Pre.cons _ ?_)) | with_reducible assumption | ((with_reducible refine bsetr ?_); rfl) | with_reducible refine Below.setCell ?_ (by simp <;> omega) _ | with_reducible refine bpl ?_ _ _ | with_reducible refine bal ?_ _ | with_reducible refine bdrew1 ?_ | with_reducible refine bdrew ?_ _)) (hb.mono (by simp <;> omega))
      obtain ⟨s0, s1, _, _⟩ := blk2 k0
      obtain ⟨⟨r0, r1, r2, r3⟩, f0, f1, f2, f3⟩ := blk4 k1
      have y0 := blklt k0
      have y1 := blklt k1
      have K0 := Lib.hid k0
      have K1 := Lib.hid k1
      clear hb k0 k1
      go_wp2_with fail
      refine Calls.mono (HAF.out _ _ (Own.nil shGr 0 _ 0 (Nat.zero_le _) _).lst) ?_
      rintro e0 w5 ⟨A5, cap5, F5, rfl, hO5, hb5⟩
      rw [hN.out] at hO5 ⊢
      have hK1 := K1.out
      have k15 : w5.heap[w.heap.size + 1]? = some (.cells #[.int .i64 0, .int .u32 0, .int .i64 0, .slice none 0 0] 28 (0, 0)) := bblk hb5 (by simp <;> omega) (by repeat (first | with_reducible assumption | with_reducible refine pls_block _ _ ?_ | with_reducible apply blkset2 | with_reducible apply blkset1 | ((with_reducible refine blksetN ?_ ?_ _); (focus (simp <;> omega))) | with_reducible exact blknew _ _ | ((with_reducible refine blknew' _ _ _ ?_); (simp <;> omega)) | with_reducible refine blkal ?_ _))
      have k25 : w5.heap[w1.heap.size]? = some (.cells #[.int .i64 tn, .int .u32 te, .int .i64 n, .slice none 0 0] 28 (0, 0)) := bblk hb5 (by simp <;> omega) (by repeat (first | with_reducible assumption | with_reducible refine pls_block _ _ ?_ | with_reducible apply blkset2 | with_reducible apply blkset1 | ((with_reducible refine blksetN ?_ ?_ _); (focus (simp <;> omega))) | with_reducible exact blknew _ _ | ((with_reducible refine blknew' _ _ _ ?_); (simp <;> omega)) | with_reducible refine blkal ?_ _))
      have hb51 : Below w.heap.size w w5 := Below.trans (by (try with_reducible refine bsz ?_); repeat (first | with_reducible exact Below.refl _ _ | ((with_reducible refine bpre ?_); (try simp only [Array.append_assoc]); repeat (first | with_reducible exact Pre.refl _ | with_reducible exact Pre.base _ _ | with_reducible refine Pre.cons _ ?_)) | with_reducible assumption | ((with_reducible refine bsetr ?_); rfl) | with_reducible refine Below.setCell ?_ (by simp <;> omega) _ | with_reducible refine bpl ?_ _ _ | with_reducible refine bal ?_ _ | with_reducible refine bdrew1 ?_ | with_reducible refine bdrew ?_ _)) (hb5.mono (by simp <;> omega))
      have hz5 : w1.heap.size + 1 ≤ w5.heap.size := by have := hb5.size; simp at this; omega
      clear r0 r1 r2 r3 f0 f1 f2 f3 hK1
      have HO5 := Lib.hid (show Own shFlag w.heap.size w5 GL (.slice A5 N cap5) F5 from hO5.below (by simp <;> omega) (Below.refl _ _))
      have hF1 : Hid (∀ b ∈ F5, w1.heap.size + 1 ≤ b ∧ b < w5.heap.size) := Lib.hid fun b hb => ⟨by have := hO5.ge b hb; simp at this; omega, hO5.lt b hb⟩
      obtain ⟨⟨r0, r1, r2, r3⟩, f0, f1, f2, f3⟩ := blk4 k15
      have y15 := blklt k15
      have K15 := Lib.hid k15
      have K25 := Lib.hid k25
      have HB5 := Lib.hid hb51
      clear hO5 hb5 k15 k25 hb51
      go_wp2_with fail
      go_loopw [10] (fun i wr => ∃ (k : Nat) (o : Value), k ≤ N ∧ i = .int .i64 k ∧ wr.heap[w1.heap.size]? = some (.cells #[.int .i64 tn, .int .u32 te, .int .i64 n, o] 28 (0, 0)) ∧ wr.heap[w.heap.size + 1]? = some (.cells #[.int .i64 0, .int .u32 0, .int .i64 0, .slice none 0 0] 28 (0, 0)) ∧ Hid (AppS shTerm (w1.heap.size + 1) 74 wr o ((GL.take k).map (tmOf oneD))) ∧ Hid (Own shFlag 0 wr GL (.slice A5 N cap5) F5) ∧ Hid (∀ q, o.ownBlock = some q → q ∉ F5) ∧ Below w.heap.size w wr ∧ w5.heap.size ≤ wr.heap.size) (fun i _ => N - (intOf i).toNat)
      case atStart =>
        have hb2 := HB5.out
        have hK1 := K15.out
        have hK2 := K25.out
        refine ⟨0, .slice none 0 0, Nat.zero_le _, rfl, (by repeat (first | with_reducible assumption | with_reducible refine pls_block _ _ ?_ | with_reducible apply blkset2 | with_reducible apply blkset1 | ((with_reducible refine blksetN ?_ ?_ _); (focus (simp <;> omega))) | with_reducible exact blknew _ _ | ((with_reducible refine blknew' _ _ _ ?_); (simp <;> omega)) | with_reducible refine blkal ?_ _)), (by repeat (first | with_reducible assumption | with_reducible refine pls_block _ _ ?_ | with_reducible apply blkset2 | with_reducible apply blkset1 | ((with_reducible refine blksetN ?_ ?_ _); (focus (simp <;> omega))) | with_reducible exact blknew _ _ | ((with_reducible refine blknew' _ _ _ ?_); (simp <;> omega)) | with_reducible refine blkal ?_ _)), Lib.hid (AppS.nil _ _ _ _), Lib.hid (HO5.out.below (Nat.zero_le _) (by (try with_reducible refine bsz ?_); repeat (first | with_reducible exact Below.refl _ _ | ((with_reducible refine bpre ?_); (try simp only [Array.append_assoc]); repeat (first | with_reducible exact Pre.refl _ | with_reducible exact Pre.base _ _ | with_reducible refine Pre.cons _ ?_)) | with_reducible assumption | ((with_reducible refine bsetr ?_); rfl) | with_reducible refine Below.setCell ?_ (by simp <;> omega) _ | with_reducible refine bpl ?_ _ _ | with_reducible refine bal ?_ _ | with_reducible refine bdrew1 ?_ | with_reducible refine bdrew ?_ _))), Lib.hid (fun q hq => by cases hq), (by (try with_reducible refine bsz ?_); repeat (first | with_reducible exact Below.refl _ _ | ((with_reducible refine bpre ?_); (try simp only [Array.append_assoc]); repeat (first | with_reducible exact Pre.refl _ | with_reducible exact Pre.base _ _ | with_reducible refine Pre.cons _ ?_)) | with_reducible assumption | ((with_reducible refine bsetr ?_); rfl) | with_reducible refine Below.setCell ?_ (by simp <;> omega) _ | with_reducible refine bpl ?_ _ _ | with_reducible refine bal ?_ _ | with_reducible refine bdrew1 ?_ | with_reducible refine bdrew ?_ _)), by simp⟩
      case round =>
        obtain ⟨k, o, hk, rfl, b0, b1, hA, hG, hQ, hB, hzz⟩ := hrel
        obtain ⟨⟨q0, q1, q2, q3⟩, p0, p1, p2, p3⟩ := blk4 b0
        have y0' := blklt b0
        have y1' := blklt b1
        have B0 := Lib.hid b0
        have B1 := Lib.hid b1
        by_cases hlt : k < N
        · clear b0 b1
          have hk8 : (k : Int) < (N : Int) := by omega
          obtain ⟨_, _, hv, _, _, hoks, hel⟩ := lstFlag hG.out.lst
          injection hv with e1 e2 e3
          obtain ⟨bl, off, e4, hel⟩ := hel (by omega)
          rw [← e1] at e4
          subst e4
          obtain ⟨d, hd, hok, c0, c1, c2⟩ := hel k (by omega)
          have zb := World.block_lt_of_cell? _ _ c0
          simp only at zb
          have HDd := Lib.hid hd
          have HOK := Lib.hid hok
          have hblF : Hid (bl ∈ F5) := Lib.hid (own_bl hG.out (by rw [hN.out]; omega))
          have hbln : bl ≠ w1.heap.size := by have := hF1.out bl hblF.out; omega
          have hbln' : w1.heap.size ≠ bl := fun e => hbln e.symm
          clear hel hoks hd hok e1 e2 e3
          obtain ⟨W0, rfl⟩ : ∃ x, x = wr := ⟨_, rfl⟩
          have hnx : Hid ((GL.take (k + 1)).map (tmOf oneD) = (GL.take k).map (tmOf oneD) ++ [tmOf oneD d]) := Lib.hid (by have hd' : (GL[k]? : Option shFlag.T) = some d := HDd.out; rw [List.take_add_one, hd', List.map_append]; rfl)
          have hml : Hid (List.length (α := shTerm.T) ((GL.take k).map (tmOf oneD)) = k) := Lib.hid ((List.length_map _).trans (take_len (by rw [hN.out]; exact hk)))
          have hAge : Hid (∀ q, o.ownBlock = some q → w1.heap.size + 1 ≤ q ∧ q < W0.heap.size) := Lib.hid hA.out.ge
          go_wp2_with fail
          (refine wp_region_held_drew (S := (fun w' => w'.cell? ⟨bl, off + k * 3, none⟩ = some (.int .i64 d.1) ∧ w'.cell? ⟨bl, off + k * 3 + 1, none⟩ = some (.int .i64 d.2.1) ∧ w'.cell? ⟨bl, off + k * 3 + 2, none⟩ = some (.int .u32 d.2.2))) (by kernel_rfl) ?_ (fun hHeld => ?_); (focus (first | (simp [*, go_sem]; done) | fail)); refine rg_take 0 (some 38) (v := ?_) rfl (by kernel_rfl) (by kernel_rfl) (by kernel_rfl) (by kernel_rfl) (fun _ _ _ h => h) (Or.inl ⟨by kernel_rfl, ?_⟩) (by assumption) ?_; rotate_left; (focus (intro w' hSw; (try dsimp only at hSw); go_simp; (try with_reducible rfl))); (try simp only [Act.put, List.setIfInBounds_toArray, List.set_cons_zero, List.set_cons_succ]); refine rg_take 2 (some 40) (v := ?_) rfl (by kernel_rfl) (by kernel_rfl) (by kernel_rfl) (by kernel_rfl) (fun _ _ _ h => h) (Or.inl ⟨by kernel_rfl, ?_⟩) (by assumption) ?_; rotate_left; (focus (intro w' hSw; (try dsimp only at hSw); go_simp; (try with_reducible rfl))); (try simp only [Act.put, List.setIfInBounds_toArray, List.set_cons_zero, List.set_cons_succ]); refine rg_take 3 (some 41) (v := ?_) rfl (by kernel_rfl) (by kernel_rfl) (by kernel_rfl) (by kernel_rfl) (fun _ _ _ h => h) (Or.inl ⟨by kernel_rfl, ?_⟩) (by assumption) ?_; rotate_left; (focus (intro w' hSw; (try dsimp only at hSw); go_simp; (try with_reducible rfl))); (try simp only [Act.put, List.setIfInBounds_toArray, List.set_cons_zero, List.set_cons_succ]); refine rg_take 4 (some 42) (v := ?_) rfl (by kernel_rfl) (by kernel_rfl) (by kernel_rfl) (by kernel_rfl) (fun _ _ _ h => h) (Or.inl ⟨by kernel_rfl, ?_⟩) (by assumption) ?_; rotate_left; (focus (intro w' hSw; (try dsimp only at hSw); go_simp; (try with_reducible rfl))); (try simp only [Act.put, List.setIfInBounds_toArray, List.set_cons_zero, List.set_cons_succ]); refine rg_take 5 (some 43) (v := ?_) rfl (by kernel_rfl) (by kernel_rfl) (by kernel_rfl) (by kernel_rfl) (fun _ _ _ h => h) (Or.inl ⟨by kernel_rfl, ?_⟩) (by assumption) ?_; rotate_left; (focus (intro w' hSw; (try dsimp only at hSw); go_simp; (try with_reducible rfl))); (try simp only [Act.put, List.setIfInBounds_toArray, List.set_cons_zero, List.set_cons_succ]); refine wpAnyH_ready (rs := [1, 6]) (by kernel_rfl) (by simp) ?_; refine AllReadyH.cons rfl (fun K hK => ?_) (AllReadyH.cons rfl (fun K hK => ?_) AllReadyH.nil); (focus ((try go_simp); refine hK.out _ _ ?_ (fun hHeld => ?_); (focus (first | (simp [*, go_sem]; done) | fail)); clear hK K; (try simp only [Act.put, List.setIfInBounds_toArray, List.set_cons_zero, List.set_cons_succ]); refine wpAnyH_ready (rs := [6]) (by kernel_rfl) (by simp) ?_; refine AllReadyH.cons rfl (fun K hK => ?_) AllReadyH.nil; go_simp; (go_at_call 38; refine Calls.mono (sOne_any 1 _) ?_; rintro e0 w3 ⟨rfl, hb⟩; have hz3 : W0.heap.size ≤ w3.heap.size := (by have := hb.size; simpa using this); have KB3 := Lib.hid ((hb.block _ (by simpa using y0')).trans B0.out); have KR3 := Lib.hid ((hb.block _ (by simpa using y1')).trans B1.out); have HB3 : Hid (Below W0.heap.size W0 w3) := Lib.hid (Below.trans (bdrew1 (Below.refl _ _)) (hb.mono (by simp))); have hk0 := bkeep HB3.out c0; have hk1 := bkeep HB3.out c1; have hk2 := bkeep HB3.out c2; have hkb := (blk4 KB3.out).1.2.2.2; have hz7 : w1.heap.size < w3.heap.size := (by omega); have hz8 : bl < w3.heap.size := (by omega); clear hb); go_wp2_with fail; refine hK.out _ _ ?_ (fun hHeld => ?_); (focus (first | (simp [*, go_sem]; done) | fail)); clear hK K; (try simp only [Act.put, List.setIfInBounds_toArray, List.set_cons_zero, List.set_cons_succ]); refine rg_take 7 (some 45) (v := ?_) rfl (by kernel_rfl) (by kernel_rfl) (by kernel_rfl) (by kernel_rfl) (fun _ _ _ h => h) (Or.inl ⟨by kernel_rfl, ?_⟩) (by assumption) ?_; rotate_left; (focus (intro w' hSw; (try dsimp only at hSw); go_simp; (try with_reducible rfl))); (try simp only [Act.put, List.setIfInBounds_toArray, List.set_cons_zero, List.set_cons_succ]); refine wpAnyH_ready (rs := [8]) (by kernel_rfl) (by simp) ?_; refine AllReadyH.cons rfl (fun K hK => ?_) AllReadyH.nil; (try go_simp); refine hK.out _ _ ?_ (fun hHeld => ?_); (focus (first | (simp [*, go_sem]; done) | fail)); clear hK K; (try simp only [Act.put, List.setIfInBounds_toArray, List.set_cons_zero, List.set_cons_succ]); refine wpAnyH_ready (rs := [9]) (by kernel_rfl) (by simp) ?_; refine AllReadyH.cons rfl (fun K hK => ?_) AllReadyH.nil; (obtain ⟨L, hown0, hnext⟩ := AppS.flat flatTerm ((hA.out.below HB3.out).below (bal (Below.refl _ _) (.cells #[.int .i64 d.1, .int .i64 d.2.1, .int .u32 d.2.2, .int .i64 1, .int .i64 1] 74))); rw [hml.out] at hown0 hnext; refine step_append_lies _ rfl (.tmp 39) (.tmp 46) 26 rfl (w1.heap.size + 1) 74 i1 zv1 5 40 Try.underlying26 I1.out Z1.out hsz1 hby1 hl1 (by decide) o k L rfl hown0 ⟨w3.heap.size, 0, none⟩ 1 1 [.int .i64 d.1, .int .i64 d.2.1, .int .u32 d.2.2, .int .i64 1, .int .i64 1] rfl rfl (World.news_of_block (blknew _ _)) (by simp [Value.oneCell']) (by decide) (by unfold maxLen; omega) (by omega) (by simp; omega) _ rfl ?_; intro g1 cap2 w4 hown hgrow hat hlt3; have hN4 := Lib.hid (hnext (tmOf oneD d) ⟨HOK.out, okOne⟩ g1 cap2 w4 hown hgrow hat); have k4 : w4.heap[w1.heap.size]? = _ := (hgrow.block w1.heap.size (by simp; omega) (fun e => by have := (hAge.out _ e.symm).1; omega)).trans ((Below.heap_alloc _ _ _ (by omega)).trans KB3.out); have K4 := Lib.hid k4; obtain ⟨⟨_, _, _, hq4⟩, _, _, _, hp4⟩ := blk4 k4; have hz5 := blklt k4; have HFC : w4.cell? ⟨bl, off + k * 3, none⟩ = some (.int .i64 d.1) ∧ w4.cell? ⟨bl, off + k * 3 + 1, none⟩ = some (.int .i64 d.2.1) ∧ w4.cell? ⟨bl, off + k * 3 + 2, none⟩ = some (.int .u32 d.2.2) := cells3_of (hgrow.block bl (by simp; omega) (fun e => hQ.out _ e.symm hblF.out)) (Below.heap_alloc _ _ _ (by omega)) hk0 hk1 hk2; obtain ⟨hm0, hm1, hm2⟩ := HFC; have K6 : Hid (w4.heap[w.heap.size + 1]? = _) := Lib.hid ((hgrow.block (w.heap.size + 1) (by simp; omega) (fun e => by have := (hAge.out _ e.symm).1; omega)).trans ((Below.heap_alloc _ _ _ (by omega)).trans KR3.out)); have hG4 := Lib.hid (((hG.out.below (Nat.le_refl _) HB3.out).below (Nat.le_refl _) (bal (Below.refl _ _) _)).grown hgrow hQ.out); have hQ4 : Hid (g1 ∉ F5) := Lib.hid (fun hm => by rcases hat with hat | hat; (exact hQ.out g1 hat hm); (have := (hF1.out g1 hm).2; simp at hat; omega)); have hB4 := Lib.hid (((hB.trans (HB3.out.mono hB.size)).alloc (by omega) _).trans ((grown_below (B := w1.heap.size + 1) hgrow (fun q hq => (hAge.out q hq).1) (by simp; omega)).mono (by omega))); have hz6 : W0.heap.size ≤ w4.heap.size := (by have := hgrow.size; simp at this; omega); clear hown0 hnext hown hgrow hat hlt3 k4); refine hK.out _ _ ?_ (fun hHeld => ?_); (focus (first | (simp [*, go_sem]; done) | fail)); clear hK K; (try simp only [Act.put, List.setIfInBounds_toArray, List.set_cons_zero, List.set_cons_succ]); refine rg_take 10 (some 48) (v := ?_) rfl (by kernel_rfl) (by kernel_rfl) (by kernel_rfl) (by kernel_rfl) (fun _ _ _ h => h) (Or.inl ⟨by kernel_rfl, ?_⟩) (by assumption) ?_; rotate_left; (focus (intro w' hSw; (try dsimp only at hSw); go_simp; (try with_reducible rfl))); (try simp only [Act.put, List.setIfInBounds_toArray, List.set_cons_zero, List.set_cons_succ]); refine wpAnyH_ready (rs := [11]) (by kernel_rfl) (by simp) ?_; refine AllReadyH.cons rfl (fun K hK => ?_) AllReadyH.nil; (try go_simp); refine hK.out _ _ ?_ (fun hHeld => ?_); (focus (first | (simp [*, go_sem]; done) | fail)); clear hK K; (try simp only [Act.put, List.setIfInBounds_toArray, List.set_cons_zero, List.set_cons_succ]); refine wpAnyH_done (by kernel_rfl) ?_ _)); rotate_left 1; (focus (go_simp; (go_at_call 38; refine Calls.mono (sOne_any 1 _) ?_; rintro e0 w3 ⟨rfl, hb⟩; have hz3 : W0.heap.size ≤ w3.heap.size := (by have := hb.size; simpa using this); have KB3 := Lib.hid ((hb.block _ (by simpa using y0')).trans B0.out); have KR3 := Lib.hid ((hb.block _ (by simpa using y1')).trans B1.out); have HB3 : Hid (Below W0.heap.size W0 w3) := Lib.hid (Below.trans (bdrew1 (Below.refl _ _)) (hb.mono (by simp))); have hk0 := bkeep HB3.out c0; have hk1 := bkeep HB3.out c1; have hk2 := bkeep HB3.out c2; have hkb := (blk4 KB3.out).1.2.2.2; have hz7 : w1.heap.size < w3.heap.size := (by omega); have hz8 : bl < w3.heap.size := (by omega); clear hb); go_wp2_with fail; refine hK.out _ _ ?_ (fun hHeld => ?_); (focus (first | (simp [*, go_sem]; done) | fail)); clear hK K; (try simp only [Act.put, List.setIfInBounds_toArray, List.set_cons_zero, List.set_cons_succ]); refine rg_take 7 (some 45) (v := ?_) rfl (by kernel_rfl) (by kernel_rfl) (by kernel_rfl) (by kernel_rfl) (fun _ _ _ h => h) (Or.inl ⟨by kernel_rfl, ?_⟩) (by assumption) ?_; rotate_left; (focus (intro w' hSw; (try dsimp only at hSw); go_simp; (try with_reducible rfl))); (try simp only [Act.put, List.setIfInBounds_toArray, List.set_cons_zero, List.set_cons_succ]); refine wpAnyH_ready (rs := [1, 8]) (by kernel_rfl) (by simp) ?_; refine AllReadyH.cons rfl (fun K hK => ?_) (AllReadyH.cons rfl (fun K hK => ?_) AllReadyH.nil); (focus ((try go_simp); refine hK.out _ _ ?_ (fun hHeld => ?_); (focus (first | (simp [*, go_sem]; done) | fail)); clear hK K; (try simp only [Act.put, List.setIfInBounds_toArray, List.set_cons_zero, List.set_cons_succ]); refine wpAnyH_ready (rs := [8]) (by kernel_rfl) (by simp) ?_; refine AllReadyH.cons rfl (fun K hK => ?_) AllReadyH.nil; (try go_simp); refine hK.out _ _ ?_ (fun hHeld => ?_); (focus (first | (simp [*, go_sem]; done) | fail)); clear hK K; (try simp only [Act.put, List.setIfInBounds_toArray, List.set_cons_zero, List.set_cons_succ]); refine wpAnyH_ready (rs := [9]) (by kernel_rfl) (by simp) ?_; refine AllReadyH.cons rfl (fun K hK => ?_) AllReadyH.nil; (obtain ⟨L, hown0, hnext⟩ := AppS.flat flatTerm ((hA.out.below HB3.out).below (bal (Below.refl _ _) (.cells #[.int .i64 d.1, .int .i64 d.2.1, .int .u32 d.2.2, .int .i64 1, .int .i64 1] 74))); rw [hml.out] at hown0 hnext; refine step_append_lies _ rfl (.tmp 39) (.tmp 46) 26 rfl (w1.heap.size + 1) 74 i1 zv1 5 40 Try.underlying26 I1.out Z1.out hsz1 hby1 hl1 (by decide) o k L rfl hown0 ⟨w3.heap.size, 0, none⟩ 1 1 [.int .i64 d.1, .int .i64 d.2.1, .int .u32 d.2.2, .int .i64 1, .int .i64 1] rfl rfl (World.news_of_block (blknew _ _)) (by simp [Value.oneCell']) (by decide) (by unfold maxLen; omega) (by omega) (by simp; omega) _ rfl ?_; intro g1 cap2 w4 hown hgrow hat hlt3; have hN4 := Lib.hid (hnext (tmOf oneD d) ⟨HOK.out, okOne⟩ g1 cap2 w4 hown hgrow hat); have k4 : w4.heap[w1.heap.size]? = _ := (hgrow.block w1.heap.size (by simp; omega) (fun e => by have := (hAge.out _ e.symm).1; omega)).trans ((Below.heap_alloc _ _ _ (by omega)).trans KB3.out); have K4 := Lib.hid k4; obtain ⟨⟨_, _, _, hq4⟩, _, _, _, hp4⟩ := blk4 k4; have hz5 := blklt k4; have HFC : w4.cell? ⟨bl, off + k * 3, none⟩ = some (.int .i64 d.1) ∧ w4.cell? ⟨bl, off + k * 3 + 1, none⟩ = some (.int .i64 d.2.1) ∧ w4.cell? ⟨bl, off + k * 3 + 2, none⟩ = some (.int .u32 d.2.2) := cells3_of (hgrow.block bl (by simp; omega) (fun e => hQ.out _ e.symm hblF.out)) (Below.heap_alloc _ _ _ (by omega)) hk0 hk1 hk2; obtain ⟨hm0, hm1, hm2⟩ := HFC; have K6 : Hid (w4.heap[w.heap.size + 1]? = _) := Lib.hid ((hgrow.block (w.heap.size + 1) (by simp; omega) (fun e => by have := (hAge.out _ e.symm).1; omega)).trans ((Below.heap_alloc _ _ _ (by omega)).trans KR3.out)); have hG4 := Lib.hid (((hG.out.below (Nat.le_refl _) HB3.out).below (Nat.le_refl _) (bal (Below.refl _ _) _)).grown hgrow hQ.out); have hQ4 : Hid (g1 ∉ F5) := Lib.hid (fun hm => by rcases hat with hat | hat; (exact hQ.out g1 hat hm); (have := (hF1.out g1 hm).2; simp at hat; omega)); have hB4 := Lib.hid (((hB.trans (HB3.out.mono hB.size)).alloc (by omega) _).trans ((grown_below (B := w1.heap.size + 1) hgrow (fun q hq => (hAge.out q hq).1) (by simp; omega)).mono (by omega))); have hz6 : W0.heap.size ≤ w4.heap.size := (by have := hgrow.size; simp at this; omega); clear hown0 hnext hown hgrow hat hlt3 k4); refine hK.out _ _ ?_ (fun hHeld => ?_); (focus (first | (simp [*, go_sem]; done) | fail)); clear hK K; (try simp only [Act.put, List.setIfInBounds_toArray, List.set_cons_zero, List.set_cons_succ]); refine rg_take 10 (some 48) (v := ?_) rfl (by kernel_rfl) (by kernel_rfl) (by kernel_rfl) (by kernel_rfl) (fun _ _ _ h => h) (Or.inl ⟨by kernel_rfl, ?_⟩) (by assumption) ?_; rotate_left; (focus (intro w' hSw; (try dsimp only at hSw); go_simp; (try with_reducible rfl))); (try simp only [Act.put, List.setIfInBounds_toArray, List.set_cons_zero, List.set_cons_succ]); refine wpAnyH_ready (rs := [11]) (by kernel_rfl) (by simp) ?_; refine AllReadyH.cons rfl (fun K hK => ?_) AllReadyH.nil; (try go_simp); refine hK.out _ _ ?_ (fun hHeld => ?_); (focus (first | (simp [*, go_sem]; done) | fail)); clear hK K; (try simp only [Act.put, List.setIfInBounds_toArray, List.set_cons_zero, List.set_cons_succ]); refine wpAnyH_done (by kernel_rfl) ?_ _)); rotate_left 1; (focus ((try go_simp); refine hK.out _ _ ?_ (fun hHeld => ?_); (focus (first | (simp [*, go_sem]; done) | fail)); clear hK K; (try simp only [Act.put, List.setIfInBounds_toArray, List.set_cons_zero, List.set_cons_succ]); refine wpAnyH_ready (rs := [1]) (by kernel_rfl) (by simp) ?_; refine AllReadyH.cons rfl (fun K hK => ?_) AllReadyH.nil; (try go_simp); refine hK.out _ _ ?_ (fun hHeld => ?_); (focus (first | (simp [*, go_sem]; done) | fail)); clear hK K; (try simp only [Act.put, List.setIfInBounds_toArray, List.set_cons_zero, List.set_cons_succ]); refine wpAnyH_ready (rs := [9]) (by kernel_rfl) (by simp) ?_; refine AllReadyH.cons rfl (fun K hK => ?_) AllReadyH.nil; (obtain ⟨L, hown0, hnext⟩ := AppS.flat flatTerm ((hA.out.below HB3.out).below (bal (Below.refl _ _) (.cells #[.int .i64 d.1, .int .i64 d.2.1, .int .u32 d.2.2, .int .i64 1, .int .i64 1] 74))); rw [hml.out] at hown0 hnext; refine step_append_lies _ rfl (.tmp 39) (.tmp 46) 26 rfl (w1.heap.size + 1) 74 i1 zv1 5 40 Try.underlying26 I1.out Z1.out hsz1 hby1 hl1 (by decide) o k L rfl hown0 ⟨w3.heap.size, 0, none⟩ 1 1 [.int .i64 d.1, .int .i64 d.2.1, .int .u32 d.2.2, .int .i64 1, .int .i64 1] rfl rfl (World.news_of_block (blknew _ _)) (by simp [Value.oneCell']) (by decide) (by unfold maxLen; omega) (by omega) (by simp; omega) _ rfl ?_; intro g1 cap2 w4 hown hgrow hat hlt3; have hN4 := Lib.hid (hnext (tmOf oneD d) ⟨HOK.out, okOne⟩ g1 cap2 w4 hown hgrow hat); have k4 : w4.heap[w1.heap.size]? = _ := (hgrow.block w1.heap.size (by simp; omega) (fun e => by have := (hAge.out _ e.symm).1; omega)).trans ((Below.heap_alloc _ _ _ (by omega)).trans KB3.out); have K4 := Lib.hid k4; obtain ⟨⟨_, _, _, hq4⟩, _, _, _, hp4⟩ := blk4 k4; have hz5 := blklt k4; have HFC : w4.cell? ⟨bl, off + k * 3, none⟩ = some (.int .i64 d.1) ∧ w4.cell? ⟨bl, off + k * 3 + 1, none⟩ = some (.int .i64 d.2.1) ∧ w4.cell? ⟨bl, off + k * 3 + 2, none⟩ = some (.int .u32 d.2.2) := cells3_of (hgrow.block bl (by simp; omega) (fun e => hQ.out _ e.symm hblF.out)) (Below.heap_alloc _ _ _ (by omega)) hk0 hk1 hk2; obtain ⟨hm0, hm1, hm2⟩ := HFC; have K6 : Hid (w4.heap[w.heap.size + 1]? = _) := Lib.hid ((hgrow.block (w.heap.size + 1) (by simp; omega) (fun e => by have := (hAge.out _ e.symm).1; omega)).trans ((Below.heap_alloc _ _ _ (by omega)).trans KR3.out)); have hG4 := Lib.hid (((hG.out.below (Nat.le_refl _) HB3.out).below (Nat.le_refl _) (bal (Below.refl _ _) _)).grown hgrow hQ.out); have hQ4 : Hid (g1 ∉ F5) := Lib.hid (fun hm => by rcases hat with hat | hat; (exact hQ.out g1 hat hm); (have := (hF1.out g1 hm).2; simp at hat; omega)); have hB4 := Lib.hid (((hB.trans (HB3.out.mono hB.size)).alloc (by omega) _).trans ((grown_below (B := w1.heap.size + 1) hgrow (fun q hq => (hAge.out q hq).1) (by simp; omega)).mono (by omega))); have hz6 : W0.heap.size ≤ w4.heap.size := (by have := hgrow.size; simp at this; omega); clear hown0 hnext hown hgrow hat hlt3 k4); refine hK.out _ _ ?_ (fun hHeld => ?_); (focus (first | (simp [*, go_sem]; done) | fail)); clear hK K; (try simp only [Act.put, List.setIfInBounds_toArray, List.set_cons_zero, List.set_cons_succ]); refine rg_take 10 (some 48) (v := ?_) rfl (by kernel_rfl) (by kernel_rfl) (by kernel_rfl) (by kernel_rfl) (fun _ _ _ h => h) (Or.inl ⟨by kernel_rfl, ?_⟩) (by assumption) ?_; rotate_left; (focus (intro w' hSw; (try dsimp only at hSw); go_simp; (try with_reducible rfl))); (try simp only [Act.put, List.setIfInBounds_toArray, List.set_cons_zero, List.set_cons_succ]); refine wpAnyH_ready (rs := [11]) (by kernel_rfl) (by simp) ?_; refine AllReadyH.cons rfl (fun K hK => ?_) AllReadyH.nil; (try go_simp); refine hK.out _ _ ?_ (fun hHeld => ?_); (focus (first | (simp [*, go_sem]; done) | fail)); clear hK K; (try simp only [Act.put, List.setIfInBounds_toArray, List.set_cons_zero, List.set_cons_succ]); refine wpAnyH_done (by kernel_rfl) ?_ _)); rotate_left 1)); rotate_left 2)
          all_goals
            clear hHeld
            go_wp2_with fail
            go_roundw
            case rel =>
              refine ⟨k + 1, .slice (some ⟨g1, 0, none⟩) (k + 1) cap2, by omega, by go_num, blkset0 K4.out 3 _, blkset K6.out (by show w.heap.size + 1 ≠ w1.heap.size; omega) _, Lib.hid ?_, Lib.hid ?_, Lib.hid (fun q hq => (show g1 = q by simpa [Value.ownBlock] using hq) ▸ hQ4.out), Below.setCell hB4.out (by show w.heap.size ≤ w1.heap.size; omega) _, by simp; omega⟩
              · rw [hnx.out]
                exact AppS.move hN4.out fun q h1 _ => Below.heap_setCell _ ⟨w1.heap.size, 3, none⟩ _ q (by show q ≠ w1.heap.size; omega)
              · refine hG4.out.chg (Chg.set (F := [w1.heap.size]) (Chg.refl _ _) (by simp) _) fun q hq => ?_
                have := hF1.out q hq
                simp
                omega
            case measure => simp [intOf]; omega
        · have e : k = N := by omega
          subst e
          have hx : Hid ((GL.take k).map (tmOf oneD) = ovX GL oneD) := Lib.hid (by rw [show GL.take k = GL from by rw [← hN.out]; exact List.take_length]; rfl)
          have hA2 := hA.out
          rw [hx.out] at hA2
          obtain ⟨A2, cap2, F2, rfl, hO2⟩ := hA2.own
          have hxl : List.length (α := shTerm.T) (ovX GL oneD) = k := (List.length_map _).trans hN.out
          rw [hxl] at hO2 q3
          obtain ⟨⟨r0, r1, r2, r3⟩, f0, f1, f2, f3⟩ := blk4 b1
          have HO2 := Lib.hid (hO2.below (B' := w.heap.size + 2) (by omega) (Below.refl _ _))
          have hge : Hid (∀ q ∈ F2, w1.heap.size + 1 ≤ q) := Lib.hid hO2.ge
          clear hA2 hO2 b0 b1
          go_wp2_with fail
          refine bodyPost_ret (v := .tuple #[.agg #[.int .i64 tn, .int .u32 te, .int .i64 n, .slice A2 k cap2], .int .i64 0]) (by simp [results, Try.results9, go_sem, *]) rfl ?_
          rw [hl.out, hao.out]
          refine ⟨A2, cap2, F2, ?_, ?_, (by (try with_reducible refine bsz ?_); repeat (first | with_reducible exact Below.refl _ _ | ((with_reducible refine bpre ?_); (try simp only [Array.append_assoc]); repeat (first | with_reducible exact Pre.refl _ | with_reducible exact Pre.base _ _ | with_reducible refine Pre.cons _ ?_)) | with_reducible assumption | ((with_reducible refine bsetr ?_); rfl) | with_reducible refine Below.setCell ?_ (by simp <;> omega) _ | with_reducible refine bpl ?_ _ _ | with_reducible refine bal ?_ _ | with_reducible refine bdrew1 ?_ | with_reducible refine bdrew ?_ _))⟩
          · exact congrArg (fun l => Ending.returned (.tuple #[.agg #[.int .i64 tn, .int .u32 te, .int .i64 n, .slice A2 l cap2], .int .i64 0])) hxl.symm
          · show Own shTerm w.heap.size _ (ovX GL oneD) (.slice A2 (List.length (α := shTerm.T) (ovX GL oneD)) cap2) F2
            rw [hxl]
            refine HO2.out.move (by omega) fun q h1 _ => ?_
            have hne : q ≠ w.heap.size + 1 := by omega
            exact (Below.heap_setCell _ ⟨w.heap.size + 1, 3, none⟩ _ q hne).trans ((Below.heap_setCell _ ⟨w.heap.size + 1, 2, none⟩ _ q hne).trans ((Below.heap_setCell _ ⟨w.heap.size + 1, 1, none⟩ _ q hne).trans (Below.heap_setCell _ ⟨w.heap.size + 1, 0, none⟩ _ q hne)))
    · have hao := Lib.hid hcode
      have hl : Hid (aoL tn te n = []) := Lib.hid (by unfold aoL tdL; rw [hcode, if_neg (by decide)])
      rw [hcode] at HAF
      obtain ⟨FL, hFL, FN, hFN⟩ : ∃ FL : List (Int × (Int × Int)), Hid (afL tn te n [] = FL) ∧ ∃ FN : Nat, Hid (FL.length = FN) := ⟨_, Lib.hid rfl, _, Lib.hid rfl⟩
      clear hcode
      go_enter Try.func9, Try.ntmps9
      go_wp2_with fail
      refine Calls.mono (HZ.out _) ?_
      rintro e0 w1 ⟨rfl, hb⟩
      have k0 : w1.heap[w.heap.size]? = some (.cells #[.int .i64 tn, .int .u32 te] 25 (0, 0)) := bblk hb (by simp <;> omega) (by repeat (first | with_reducible assumption | with_reducible refine pls_block _ _ ?_ | with_reducible apply blkset2 | with_reducible apply blkset1 | ((with_reducible refine blksetN ?_ ?_ _); (focus (simp <;> omega))) | with_reducible exact blknew _ _ | ((with_reducible refine blknew' _ _ _ ?_); (simp <;> omega)) | with_reducible refine blkal ?_ _))
      have k1 : w1.heap[w.heap.size + 1]? = some (.cells #[.int .i64 0, .int .u32 0, .int .i64 0, .slice none 0 0] 28 (0, 0)) := bblk hb (by simp <;> omega) (by repeat (first | with_reducible assumption | with_reducible refine pls_block _ _ ?_ | with_reducible apply blkset2 | with_reducible apply blkset1 | ((with_reducible refine blksetN ?_ ?_ _); (focus (simp <;> omega))) | with_reducible exact blknew _ _ | ((with_reducible refine blknew' _ _ _ ?_); (simp <;> omega)) | with_reducible refine blkal ?_ _))
      have hz1 : w.heap.size + 1 + 1 ≤ w1.heap.size := by have := hb.size; simp at this; omega
      have hb1 : Below w.heap.size w w1 := Below.trans (by (try with_reducible refine bsz ?_); repeat (first | with_reducible exact Below.refl _ _ | ((with_reducible refine bpre ?_); (try simp only [Array.append_assoc]); repeat (first | with_reducible exact Pre.refl _ | with_reducible exact Pre.base _ _ | with_reducible refine Pre.cons _ ?_)) | with_reducible assumption | ((with_reducible refine bsetr ?_); rfl) | with_reducible refine Below.setCell ?_ (by simp <;> omega) _ | with_reducible refine bpl ?_ _ _ | with_reducible refine bal ?_ _ | with_reducible refine bdrew1 ?_ | with_reducible refine bdrew ?_ _)) (hb.mono (by simp <;> omega))
      obtain ⟨s0, s1, _, _⟩ := blk2 k0
      obtain ⟨⟨r0, r1, r2, r3⟩, f0, f1, f2, f3⟩ := blk4 k1
      have y0 := blklt k0
      have y1 := blklt k1
      have K0 := Lib.hid k0
      have K1 := Lib.hid k1
      clear hb k0 k1
      go_wp2_with fail
      refine Calls.mono (HAF.out _ _ (Own.nil shGr 0 _ 0 (Nat.zero_le _) _).lst) ?_
      rintro e0 w5 ⟨A5, cap5, F5, rfl, hO5, hb5⟩
      have hK1 := K1.out
      have k15 : w5.heap[w.heap.size + 1]? = some (.cells #[.int .i64 0, .int .u32 0, .int .i64 0, .slice none 0 0] 28 (0, 0)) := bblk hb5 (by simp <;> omega) (by repeat (first | with_reducible assumption | with_reducible refine pls_block _ _ ?_ | with_reducible apply blkset2 | with_reducible apply blkset1 | ((with_reducible refine blksetN ?_ ?_ _); (focus (simp <;> omega))) | with_reducible exact blknew _ _ | ((with_reducible refine blknew' _ _ _ ?_); (simp <;> omega)) | with_reducible refine blkal ?_ _))
      have k25 : w5.heap[w1.heap.size]? = some (.cells #[.int .i64 tn, .int .u32 te, .int .i64 n, .slice none 0 0] 28 (0, 0)) := bblk hb5 (by simp <;> omega) (by repeat (first | with_reducible assumption | with_reducible refine pls_block _ _ ?_ | with_reducible apply blkset2 | with_reducible apply blkset1 | ((with_reducible refine blksetN ?_ ?_ _); (focus (simp <;> omega))) | with_reducible exact blknew _ _ | ((with_reducible refine blknew' _ _ _ ?_); (simp <;> omega)) | with_reducible refine blkal ?_ _))
      have hb51 : Below w.heap.size w w5 := Below.trans (by (try with_reducible refine bsz ?_); repeat (first | with_reducible exact Below.refl _ _ | ((with_reducible refine bpre ?_); (try simp only [Array.append_assoc]); repeat (first | with_reducible exact Pre.refl _ | with_reducible exact Pre.base _ _ | with_reducible refine Pre.cons _ ?_)) | with_reducible assumption | ((with_reducible refine bsetr ?_); rfl) | with_reducible refine Below.setCell ?_ (by simp <;> omega) _ | with_reducible refine bpl ?_ _ _ | with_reducible refine bal ?_ _ | with_reducible refine bdrew1 ?_ | with_reducible refine bdrew ?_ _)) (hb5.mono (by simp <;> omega))
      have hz5 : w1.heap.size + 1 ≤ w5.heap.size := by have := hb5.size; simp at this; omega
      clear r0 r1 r2 r3 f0 f1 f2 f3 hK1
      obtain ⟨⟨r0, r1, r2, r3⟩, f0, f1, f2, f3⟩ := blk4 k15
      have y15 := blklt k15
      clear hO5 hb5
      go_wp2_with fail
      refine bodyPost_ret (v := .tuple #[.agg #[.int .i64 0, .int .u32 0, .int .i64 0, .slice none 0 0], .int .i64 3]) (by simp [results, Try.results9, go_sem, *]) rfl ?_
      rw [hao.out, hl.out]
      exact sumRet_no rfl rfl rfl (by (try with_reducible refine bsz ?_); repeat (first | with_reducible exact Below.refl _ _ | ((with_reducible refine bpre ?_); (try simp only [Array.append_assoc]); repeat (first | with_reducible exact Pre.refl _ | with_reducible exact Pre.base _ _ | with_reducible refine Pre.cons _ ?_)) | with_reducible assumption | ((with_reducible refine bsetr ?_); rfl) | with_reducible refine Below.setCell ?_ (by simp <;> omega) _ | with_reducible refine bpl ?_ _ _ | with_reducible refine bal ?_ _ | with_reducible refine bdrew1 ?_ | with_reducible refine bdrew ?_ _)) rfl
end Go.Proofs.Ytfdobpeekipafaa

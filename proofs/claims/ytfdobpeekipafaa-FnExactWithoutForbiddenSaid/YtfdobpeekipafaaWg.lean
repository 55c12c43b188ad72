/- spec.WithoutForbidden. -/
import Derived.Test.YtfdobpeekipafaaWf
import Derived.Test.YtfdobpeekipafaaVt
import Derived.Test.YtfdobpeekipafaaPs
namespace Go.Proofs.Ytfdobpeekipafaa
open Go.ChangeShapes Go.WideShapes Go.RowKit
set_option linter.unusedVariables false
set_option linter.unusedSimpArgs false
attribute [local irreducible] Calls
theorem wfL_succ {gs : List (Int × Int)} {xs : List Trm} {k : Nat} {d : Trm} (h : xs[k]? = some d) : wfL gs (xs.take (k + 1)) = if wfP gs d then wfL gs (xs.take k) else wfL gs (xs.take k) ++ [d] := by
  unfold wfL
  rw [List.take_add_one, h, List.filter_append]
  cases hp : wfP gs d <;> simp [hp]
theorem wfL_len (gs : List (Int × Int)) (xs : List Trm) (k : Nat) : (wfL gs (xs.take k)).length ≤ xs.length := Nat.le_trans (List.length_filter_le _ _) (by rw [List.length_take]; omega)
set_option maxHeartbeats 4000000 in
theorem sWithoutForbidden_any (w : World) (tn te s : Int) (xs : List Trm) (gs : List (Int × Int)) (v gv : Value) (h : Lst shTerm w xs v) (hg : Lst shGr w gs gv) (he : 0 ≤ te ∧ te ≤ 4294967295) :
    Calls Try.prog 30 #[.agg #[.int .i64 tn, .int .u32 te, .int .i64 s, v], gv] w (SumRet w.heap.size w (pkC tn te s xs gs) (tdT (pkC tn te s xs gs) (tn, te)) (tdS (pkC tn te s xs gs) s) (tdL (pkC tn te s xs gs) (wfL gs xs))) := by
  obtain ⟨A0, cap0, rfl, _, _⟩ := formTerm h
  obtain ⟨A1, cap1, rfl, _, _⟩ := formGraph hg
  have H := Lib.hid h
  have HG := Lib.hid hg
  cases hs : sumOk tn te s xs
  · have hr : Hid (pkC tn te s xs gs = 1) := Lib.hid (by simp [pkC, hs])
    have HS := Lib.hid hs
    clear hs h hg
    go_enter Try.func30, Try.ntmps30
    go_wp2_with (first | (go_at_call 80; refine Calls.mono (l05Ok_any _ w.heap.size tn te s xs _ (by repeat (first | with_reducible assumption | with_reducible refine pls_block _ _ ?_ | with_reducible apply blkset2 | with_reducible apply blkset1 | ((with_reducible refine blksetN ?_ ?_ _); (focus (simp <;> omega))) | with_reducible exact blknew _ _ | ((with_reducible refine blknew' _ _ _ ?_); (simp <;> omega)) | with_reducible refine blkal ?_ _)) (H.out.below (by (try with_reducible refine bsz ?_); repeat (first | with_reducible exact Below.refl _ _ | ((with_reducible refine bpre ?_); (try simp only [Array.append_assoc]); repeat (first | with_reducible exact Pre.refl _ | with_reducible exact Pre.base _ _ | with_reducible refine Pre.cons _ ?_)) | with_reducible assumption | ((with_reducible refine bsetr ?_); rfl) | with_reducible refine Below.setCell ?_ (by simp <;> omega) _ | with_reducible refine bpl ?_ _ _ | with_reducible refine bal ?_ _ | with_reducible refine bdrew1 ?_ | with_reducible refine bdrew ?_ _))) he) ?_; rw [HS.out]; rintro e w1 ⟨rfl, hb⟩; obtain ⟨X, m, rfl⟩ := plsOf hb; clear hb))
    refine bodyPost_ret (v := .tuple #[.agg #[.int .i64 0, .int .u32 0, .int .i64 0, .slice none 0 0], .int .i64 1]) (by simp [results, Try.results30, go_sem, *]) rfl ?_
    rw [hr.out]
    exact sumRet_no rfl rfl rfl (by (try with_reducible refine bsz ?_); repeat (first | with_reducible exact Below.refl _ _ | ((with_reducible refine bpre ?_); (try simp only [Array.append_assoc]); repeat (first | with_reducible exact Pre.refl _ | with_reducible exact Pre.base _ _ | with_reducible refine Pre.cons _ ?_)) | with_reducible assumption | ((with_reducible refine bsetr ?_); rfl) | with_reducible refine Below.setCell ?_ (by simp <;> omega) _ | with_reducible refine bpl ?_ _ _ | with_reducible refine bal ?_ _ | with_reducible refine bdrew1 ?_ | with_reducible refine bdrew ?_ _)) rfl
  cases hc : (forbC gs != 0)
  rotate_left
  · have h0 : forbC gs ≠ 0 := by simpa using hc
    have hp : Hid (pkC tn te s xs gs = forbC gs) := Lib.hid (by simp [pkC, hs])
    obtain ⟨T, hT⟩ : ∃ T, Hid (forbC gs = T) := ⟨_, Lib.hid rfl⟩
    have HT : Hid (tdT T (tn, te) = (0, 0) ∧ tdS T s = 0 ∧ tdL T (wfL gs xs) = []) := Lib.hid (by rw [← hT.out]; exact ⟨if_neg h0, if_neg h0, if_neg h0⟩)
    rw [hT.out] at hc
    rw [hp.out, hT.out]
    have HS := Lib.hid hs
    clear hs h hg h0
    go_enter Try.func30, Try.ntmps30
    go_wp2_with (first | (go_at_call 80; refine Calls.mono (l05Ok_any _ w.heap.size tn te s xs _ (by repeat (first | with_reducible assumption | with_reducible refine pls_block _ _ ?_ | with_reducible apply blkset2 | with_reducible apply blkset1 | ((with_reducible refine blksetN ?_ ?_ _); (focus (simp <;> omega))) | with_reducible exact blknew _ _ | ((with_reducible refine blknew' _ _ _ ?_); (simp <;> omega)) | with_reducible refine blkal ?_ _)) (H.out.below (by (try with_reducible refine bsz ?_); repeat (first | with_reducible exact Below.refl _ _ | ((with_reducible refine bpre ?_); (try simp only [Array.append_assoc]); repeat (first | with_reducible exact Pre.refl _ | with_reducible exact Pre.base _ _ | with_reducible refine Pre.cons _ ?_)) | with_reducible assumption | ((with_reducible refine bsetr ?_); rfl) | with_reducible refine Below.setCell ?_ (by simp <;> omega) _ | with_reducible refine bpl ?_ _ _ | with_reducible refine bal ?_ _ | with_reducible refine bdrew1 ?_ | with_reducible refine bdrew ?_ _))) he) ?_; rw [HS.out]; rintro e w1 ⟨rfl, hb⟩; obtain ⟨X, m, rfl⟩ := plsOf hb; clear hb) | (go_at_call 81; refine Calls.mono (l01Forbidden_any _ gs _ (HG.out.below (by (try with_reducible refine bsz ?_); repeat (first | with_reducible exact Below.refl _ _ | ((with_reducible refine bpre ?_); (try simp only [Array.append_assoc]); repeat (first | with_reducible exact Pre.refl _ | with_reducible exact Pre.base _ _ | with_reducible refine Pre.cons _ ?_)) | with_reducible assumption | ((with_reducible refine bsetr ?_); rfl) | with_reducible refine Below.setCell ?_ (by simp <;> omega) _ | with_reducible refine bpl ?_ _ _ | with_reducible refine bal ?_ _ | with_reducible refine bdrew1 ?_ | with_reducible refine bdrew ?_ _)))) ?_; rw [hT.out]; rintro e w1 ⟨rfl, hb⟩; obtain ⟨X, m, rfl⟩ := plsOf hb; clear hb))
    refine bodyPost_ret (v := .tuple #[.agg #[.int .i64 0, .int .u32 0, .int .i64 0, .slice none 0 0], .int .i64 T]) (by simp [results, Try.results30, go_sem, *]) rfl ?_
    exact sumRet_no HT.out.1 HT.out.2.1 HT.out.2.2 (by (try with_reducible refine bsz ?_); repeat (first | with_reducible exact Below.refl _ _ | ((with_reducible refine bpre ?_); (try simp only [Array.append_assoc]); repeat (first | with_reducible exact Pre.refl _ | with_reducible exact Pre.base _ _ | with_reducible refine Pre.cons _ ?_)) | with_reducible assumption | ((with_reducible refine bsetr ?_); rfl) | with_reducible refine Below.setCell ?_ (by simp <;> omega) _ | with_reducible refine bpl ?_ _ _ | with_reducible refine bal ?_ _ | with_reducible refine bdrew1 ?_ | with_reducible refine bdrew ?_ _)) rfl
  · have h0 : forbC gs = 0 := by simpa using hc
    have hgs := Lib.hid (forbC_ok h0).2
    have hfl : Hid (∀ d ∈ xs, 0 ≤ d.1.2.1 ∧ d.1.2.1 ≤ 5) := Lib.hid fun d hd => ((flV_iff _).1 (okT_iff.1 (sumOk_mem hs hd)).1).2.1
    have hlx : xs.length ≤ 64 := (sumOk_iff.1 hs).2.2.1
    have hp : Hid (pkC tn te s xs gs = 0) := Lib.hid (by simp [pkC, hs, h0])
    obtain ⟨i1, zv1, hi1, hz1, hsz1, hby1, hl1⟩ := infoB_spec (P := Try.prog) (e := 74) (sz := 5) (bytes := 40) (by kernel_rfl)
    have I1 := Lib.hid hi1
    have Z1 := Lib.hid hz1
    have H0 := Lib.hid h0
    have HS := Lib.hid hs
    rw [hp.out]
    rw [show tdT 0 (tn, te) = (tn, te) from rfl, show tdS 0 s = s from rfl, show tdL 0 (wfL gs xs) = wfL gs xs from rfl]
    obtain ⟨N, hN, hNA⟩ : ∃ N : Nat, Hid (xs.length = N) ∧ Value.slice A0 xs.length cap0 = Value.slice A0 N cap0 := ⟨_, Lib.hid rfl, rfl⟩
    rw [hNA] at H ⊢
    rw [hN.out] at hlx
    clear hi1 hz1 h0 hs h hg hc hNA
    go_enter Try.func30, Try.ntmps30
    go_wp2_with fail
    refine Calls.mono (l05Ok_any _ w.heap.size tn te s xs _ (by repeat (first | with_reducible assumption | with_reducible refine pls_block _ _ ?_ | with_reducible apply blkset2 | with_reducible apply blkset1 | ((with_reducible refine blksetN ?_ ?_ _); (focus (simp <;> omega))) | with_reducible exact blknew _ _ | ((with_reducible refine blknew' _ _ _ ?_); (simp <;> omega)) | with_reducible refine blkal ?_ _)) (H.out.below (by (try with_reducible refine bsz ?_); repeat (first | with_reducible exact Below.refl _ _ | ((with_reducible refine bpre ?_); (try simp only [Array.append_assoc]); repeat (first | with_reducible exact Pre.refl _ | with_reducible exact Pre.base _ _ | with_reducible refine Pre.cons _ ?_)) | with_reducible assumption | ((with_reducible refine bsetr ?_); rfl) | with_reducible refine Below.setCell ?_ (by simp <;> omega) _ | with_reducible refine bpl ?_ _ _ | with_reducible refine bal ?_ _ | with_reducible refine bdrew1 ?_ | with_reducible refine bdrew ?_ _))) he) ?_
    rw [HS.out]
    rintro e0 w1 ⟨rfl, hb⟩
    have k0 : w1.heap[w.heap.size]? = some (.cells #[.int .i64 tn, .int .u32 te, .int .i64 s, .slice A0 N cap0] 28 (0, 0)) := bblk hb (by simp <;> omega) (by repeat (first | with_reducible assumption | with_reducible refine pls_block _ _ ?_ | with_reducible apply blkset2 | with_reducible apply blkset1 | ((with_reducible refine blksetN ?_ ?_ _); (focus (simp <;> omega))) | with_reducible exact blknew _ _ | ((with_reducible refine blknew' _ _ _ ?_); (simp <;> omega)) | with_reducible refine blkal ?_ _))
    have k1 : w1.heap[w.heap.size + 1]? = some (.cells #[.int .i64 0, .int .u32 0, .int .i64 0, .slice none 0 0] 28 (0, 0)) := bblk hb (by simp <;> omega) (by repeat (first | with_reducible assumption | with_reducible refine pls_block _ _ ?_ | with_reducible apply blkset2 | with_reducible apply blkset1 | ((with_reducible refine blksetN ?_ ?_ _); (focus (simp <;> omega))) | with_reducible exact blknew _ _ | ((with_reducible refine blknew' _ _ _ ?_); (simp <;> omega)) | with_reducible refine blkal ?_ _))
    have hb1 : Below w.heap.size w w1 := Below.trans (by (try with_reducible refine bsz ?_); repeat (first | with_reducible exact Below.refl _ _ | ((with_reducible refine bpre ?_); (try simp only [Array.append_assoc]); repeat (first | with_reducible exact Pre.refl _ | with_reducible exact Pre.base _ _ | with_reducible refine Pre.cons _ ?_)) | with_reducible assumption | ((with_reducible refine bsetr ?_); rfl) | with_reducible refine Below.setCell ?_ (by simp <;> omega) _ | with_reducible refine bpl ?_ _ _ | with_reducible refine bal ?_ _ | with_reducible refine bdrew1 ?_ | with_reducible refine bdrew ?_ _)) (hb.mono (by simp <;> omega))
    clear hb
    go_wp2_with fail
    refine Calls.mono (l01Forbidden_any _ gs _ (HG.out.below hb1)) ?_
    rw [H0.out]
    rintro e0 w2 ⟨rfl, hb⟩
    have k02 := bblk hb (blklt k0) k0
    have k12 := bblk hb (blklt k1) k1
    have hb2 : Below w.heap.size w w2 := hb1.trans (hb.mono hb1.size)
    have hz2 : w.heap.size + 1 < w2.heap.size := blklt k12
    obtain ⟨⟨q0, q1, q2, q3⟩, _⟩ := blk4 k02
    have K0 := Lib.hid k02
    have K1 := Lib.hid k12
    have HB2 := Lib.hid hb2
    clear hb hb1 hb2 k0 k1 k02 k12
    go_wp2_with fail
    go_loopw [8] (fun i wr => ∃ (k : Nat) (o : Value), k ≤ N ∧ i = .int .i64 k ∧ wr.heap[w2.heap.size]? = some (.cells #[.int .i64 tn, .int .u32 te, .int .i64 s, o] 28 (0, 0)) ∧ wr.heap[w.heap.size]? = some (.cells #[.int .i64 tn, .int .u32 te, .int .i64 s, .slice A0 N cap0] 28 (0, 0)) ∧ wr.heap[w.heap.size + 1]? = some (.cells #[.int .i64 0, .int .u32 0, .int .i64 0, .slice none 0 0] 28 (0, 0)) ∧ Hid (AppS shTerm (w2.heap.size + 1) 74 wr o (wfL gs (xs.take k))) ∧ Below w.heap.size w wr ∧ w2.heap.size ≤ wr.heap.size) (fun i _ => N - (intOf i).toNat)
    case atStart =>
      have hb2 := HB2.out
      have hK1 := K1.out
      have hK0 := K0.out
      refine ⟨0, .slice none 0 0, Nat.zero_le _, rfl, (by repeat (first | with_reducible assumption | with_reducible refine pls_block _ _ ?_ | with_reducible apply blkset2 | with_reducible apply blkset1 | ((with_reducible refine blksetN ?_ ?_ _); (focus (simp <;> omega))) | with_reducible exact blknew _ _ | ((with_reducible refine blknew' _ _ _ ?_); (simp <;> omega)) | with_reducible refine blkal ?_ _)), (by repeat (first | with_reducible assumption | with_reducible refine pls_block _ _ ?_ | with_reducible apply blkset2 | with_reducible apply blkset1 | ((with_reducible refine blksetN ?_ ?_ _); (focus (simp <;> omega))) | with_reducible exact blknew _ _ | ((with_reducible refine blknew' _ _ _ ?_); (simp <;> omega)) | with_reducible refine blkal ?_ _)), (by repeat (first | with_reducible assumption | with_reducible refine pls_block _ _ ?_ | with_reducible apply blkset2 | with_reducible apply blkset1 | ((with_reducible refine blksetN ?_ ?_ _); (focus (simp <;> omega))) | with_reducible exact blknew _ _ | ((with_reducible refine blknew' _ _ _ ?_); (simp <;> omega)) | with_reducible refine blkal ?_ _)), Lib.hid (AppS.nil _ _ _ _), (by (try with_reducible refine bsz ?_); repeat (first | with_reducible exact Below.refl _ _ | ((with_reducible refine bpre ?_); (try simp only [Array.append_assoc]); repeat (first | with_reducible exact Pre.refl _ | with_reducible exact Pre.base _ _ | with_reducible refine Pre.cons _ ?_)) | with_reducible assumption | ((with_reducible refine bsetr ?_); rfl) | with_reducible refine Below.setCell ?_ (by simp <;> omega) _ | with_reducible refine bpl ?_ _ _ | with_reducible refine bal ?_ _ | with_reducible refine bdrew1 ?_ | with_reducible refine bdrew ?_ _)), by simp⟩
    case round =>
      obtain ⟨k, o, hk, rfl, b0, b1, b2, hA, hB, hzz⟩ := hrel
      obtain ⟨⟨p0, p1, p2, p3⟩, f0, f1, f2, f3⟩ := blk4 b0
      obtain ⟨⟨_, _, _, q3⟩, _⟩ := blk4 b1
      have y0 := blklt b0
      have y1 := blklt b1
      have y2 := blklt b2
      have B0 := Lib.hid b0
      have B1 := Lib.hid b1
      have B2 := Lib.hid b2
      by_cases hlt : k < N
      · clear b0 b1 b2
        have hk8 : (k : Int) < (N : Int) := by omega
        obtain ⟨_, _, hv, _, _, hoks, hel⟩ := lstTerm H.out
        injection hv with e1 e2 e3
        obtain ⟨bl, off, e4, hel⟩ := hel (by omega)
        rw [← e1] at e4
        subst e4
        obtain ⟨d, hd, hok, c0, c1, c2, c3, c4⟩ := hel k (by omega)
        have zb := World.block_lt_of_cell? _ _ c0
        simp only at zb
        have HDd := Lib.hid hd
        have HOK := Lib.hid hok
        have hm5 := hfl.out d (List.mem_of_getElem? hd)
        obtain ⟨n, hn2⟩ := Int.eq_ofNat_of_zero_le hm5.1
        have hn5 : n ≤ 5 := by have h2 := hm5.2; rw [hn2] at h2; omega
        rw [hn2] at c1
        have hwp : Hid (wfP gs d = !freeB n d.1.2.2 gs) := Lib.hid (by unfold wfP; rw [hn2]; rfl)
        have hge : Hid (okI .u32 d.1.2.2) := Lib.hid hok.1.2.2
        have hn2 := Lib.hid hn2
        have g0 := bkeep hB c0
        have g1 := bkeep hB c1
        have g2 := bkeep hB c2
        have g3 := bkeep hB c3
        have g4 := bkeep hB c4
        have hsz := hB.size
        clear hel hoks hd hok e1 e2 e3 hm5 c0 c1 c2 c3 c4
        obtain ⟨W0, rfl⟩ : ∃ x, x = wr := ⟨_, rfl⟩
        have hAge : Hid (∀ q, o.ownBlock = some q → w2.heap.size + 1 ≤ q ∧ q < W0.heap.size) := Lib.hid hA.out.ge
        have hml : Hid (List.length (α := shTerm.T) (wfL gs (xs.take k)) ≤ N) := Lib.hid (by rw [← hN.out]; exact wfL_len gs xs k)
        go_wp2_with fail
        refine Calls.mono (l01Free_any _ n d.1.2.2 gs _ (HG.out.below hB) hge.out hn5 hgs.out) ?_
        rintro e0 w3 ⟨rfl, hb⟩
        have KB3 := Lib.hid ((hb.block _ y0).trans B0.out)
        have KA3 := Lib.hid ((hb.block _ y1).trans B1.out)
        have KR3 := Lib.hid ((hb.block _ y2).trans B2.out)
        have HB3 := Lib.hid hb
        have hB3 : Below w.heap.size w w3 := hB.trans (hb.mono hB.size)
        have hz3 := hb.size
        have m0 := bkeep hb g0
        have m1 := bkeep hb g1
        have m2 := bkeep hb g2
        have m3 := bkeep hb g3
        have m4 := bkeep hb g4
        have mo := (blk4 KB3.out).1.2.2.2
        have ma := (blk4 KA3.out).1.2.2.2
        have hz7 : w2.heap.size < w3.heap.size := by omega
        have hz8 : bl < w3.heap.size := by omega
        have hz9 : w.heap.size < w3.heap.size := by omega
        have hne1 : w2.heap.size ≠ bl := by omega
        have hne2 : w2.heap.size ≠ w.heap.size := by omega
        clear hb
        cases hfr : freeB n d.1.2.2 gs
        · have HFR := Lib.hid hfr
          clear hfr
          go_wp2_with fail
          go_roundw
          case rel =>
            exact ⟨k + 1, o, by omega, by go_num, KB3.out, KA3.out, KR3.out, Lib.hid (by rw [wfL_succ HDd.out, hwp.out, HFR.out]; exact hA.out.below HB3.out), hB.trans (HB3.out.mono hB.size), by omega⟩
          case measure => simp [intOf]; omega
        · have HFR := Lib.hid hfr
          clear hfr
          have hnx : Hid (wfL gs (xs.take (k + 1)) = wfL gs (xs.take k) ++ [d]) := Lib.hid (by rw [wfL_succ HDd.out, hwp.out, HFR.out]; rfl)
          obtain ⟨q, hq⟩ : ∃ q : Nat, Hid (List.length (α := shTerm.T) (wfL gs (xs.take k)) = q) := ⟨_, Lib.hid rfl⟩
          have hqN : q ≤ N := by rw [← hq.out]; exact hml.out
          go_wp2_with fail
          (refine wp_region_held_drew (S := (fun W' => W'.cell? ⟨bl, off + k * 5, none⟩ = some (.int .i64 d.1.1) ∧ W'.cell? ⟨bl, off + k * 5 + 1, none⟩ = some (.int .i64 n) ∧ W'.cell? ⟨bl, off + k * 5 + 2, none⟩ = some (.int .u32 d.1.2.2) ∧ W'.cell? ⟨bl, off + k * 5 + 3, none⟩ = some (.int .i64 d.2.1) ∧ W'.cell? ⟨bl, off + k * 5 + 4, none⟩ = some (.int .i64 d.2.2) ∧ W'.cell? ⟨w.heap.size, 3, none⟩ = some (.slice (some ⟨bl, off, none⟩) N cap0))) (by kernel_rfl) ?_ (fun hHeld => ?_); (focus (first | (simp [*, go_sem]; done) | fail)); refine rg_take 0 (some 39) (v := ?_) rfl (by kernel_rfl) (by kernel_rfl) (by kernel_rfl) (by kernel_rfl) (fun _ _ _ h => h) (Or.inl ⟨by kernel_rfl, ?_⟩) (by assumption) ?_; rotate_left; (focus (intro w' hSw; (try dsimp only at hSw); go_simp; (try with_reducible rfl))); (try simp only [Act.put, List.setIfInBounds_toArray, List.set_cons_zero, List.set_cons_succ]); refine rg_take 2 (some 41) (v := ?_) rfl (by kernel_rfl) (by kernel_rfl) (by kernel_rfl) (by kernel_rfl) (fun _ _ _ h => h) (Or.inl ⟨by kernel_rfl, ?_⟩) (by assumption) ?_; rotate_left; (focus (intro w' hSw; (try dsimp only at hSw); go_simp; (try with_reducible rfl))); (try simp only [Act.put, List.setIfInBounds_toArray, List.set_cons_zero, List.set_cons_succ]); refine rg_take 3 (some 42) (v := ?_) rfl (by kernel_rfl) (by kernel_rfl) (by kernel_rfl) (by kernel_rfl) (fun _ _ _ h => h) (Or.inl ⟨by kernel_rfl, ?_⟩) (by assumption) ?_; rotate_left; (focus (intro w' hSw; (try dsimp only at hSw); go_simp; (try with_reducible rfl))); (try simp only [Act.put, List.setIfInBounds_toArray, List.set_cons_zero, List.set_cons_succ]); refine rg_take 4 (some 43) (v := ?_) rfl (by kernel_rfl) (by kernel_rfl) (by kernel_rfl) (by kernel_rfl) (fun _ _ _ h => h) (Or.inl ⟨by kernel_rfl, ?_⟩) (by assumption) ?_; rotate_left; (focus (intro w' hSw; (try dsimp only at hSw); go_simp; (try with_reducible rfl))); (try simp only [Act.put, List.setIfInBounds_toArray, List.set_cons_zero, List.set_cons_succ]); refine rg_take 5 (some 44) (v := ?_) rfl (by kernel_rfl) (by kernel_rfl) (by kernel_rfl) (by kernel_rfl) (fun _ _ _ h => h) (Or.inl ⟨by kernel_rfl, ?_⟩) (by assumption) ?_; rotate_left; (focus (intro w' hSw; (try dsimp only at hSw); go_simp; (try with_reducible rfl))); (try simp only [Act.put, List.setIfInBounds_toArray, List.set_cons_zero, List.set_cons_succ]); refine rg_take 6 (some 45) (v := ?_) rfl (by kernel_rfl) (by kernel_rfl) (by kernel_rfl) (by kernel_rfl) (fun _ _ _ h => h) (Or.inl ⟨by kernel_rfl, ?_⟩) (by assumption) ?_; rotate_left; (focus (intro w' hSw; (try dsimp only at hSw); go_simp; (try with_reducible rfl))); (try simp only [Act.put, List.setIfInBounds_toArray, List.set_cons_zero, List.set_cons_succ]); refine wpAnyH_ready (rs := [1, 7]) (by kernel_rfl) (by simp) ?_; refine AllReadyH.cons rfl (fun K hK => ?_) (AllReadyH.cons rfl (fun K hK => ?_) AllReadyH.nil); (focus ((try go_simp); refine hK.out _ _ ?_ (fun hHeld => ?_); (focus (first | (simp [*, go_sem]; done) | fail)); clear hK K; (try simp only [Act.put, List.setIfInBounds_toArray, List.set_cons_zero, List.set_cons_succ]); refine wpAnyH_ready (rs := [7]) (by kernel_rfl) (by simp) ?_; refine AllReadyH.cons rfl (fun K hK => ?_) AllReadyH.nil; (try go_simp); refine hK.out _ _ ?_ (fun hHeld => ?_); (focus (first | (simp [*, go_sem]; done) | fail)); clear hK K; (try simp only [Act.put, List.setIfInBounds_toArray, List.set_cons_zero, List.set_cons_succ]); refine wpAnyH_ready (rs := [8]) (by kernel_rfl) (by simp) ?_; refine AllReadyH.cons rfl (fun K hK => ?_) AllReadyH.nil; (obtain ⟨L, hown0, hnext⟩ := AppS.flat flatTerm ((hA.out.below HB3.out).below (bdrew1 (bal (Below.refl _ _) (.cells #[.int .i64 d.1.1, .int .i64 n, .int .u32 d.1.2.2, .int .i64 d.2.1, .int .i64 d.2.2] 74)))); rw [hq.out] at hown0 hnext; refine step_append_lies _ rfl (.tmp 40) (.tmp 46) 26 rfl (w2.heap.size + 1) 74 i1 zv1 5 40 Try.underlying26 I1.out Z1.out hsz1 hby1 hl1 (by decide) o q L rfl hown0 ⟨w3.heap.size, 0, none⟩ 1 1 [.int .i64 d.1.1, .int .i64 n, .int .u32 d.1.2.2, .int .i64 d.2.1, .int .i64 d.2.2] rfl rfl (World.news_of_block (blknew _ _)) (by simp [Value.oneCell']) (by decide) (by unfold maxLen; omega) (by omega) (by simp; omega) _ rfl ?_; intro g1' cap2 w4 hown hgrow hat hlt3; have hN4 := Lib.hid (hnext d HOK.out g1' cap2 w4 (by rw [show encTerm d = [.int .i64 d.1.1, .int .i64 n, .int .u32 d.1.2.2, .int .i64 d.2.1, .int .i64 d.2.2] from by unfold encTerm; rw [hn2.out]]; exact hown) hgrow hat); have hkb : ∀ q', q' < w3.heap.size → (∀ r, o.ownBlock = some r → q' ≠ r) → w4.heap[q']? = w3.heap[q']? := fun q' h1 h2 => (hgrow.block q' (by simp; omega) (fun e => h2 q' e.symm rfl)).trans (Below.heap_alloc _ _ _ (by simpa using h1)); have hob : ∀ r, o.ownBlock = some r → w2.heap.size + 1 ≤ r := fun r hr => (hAge.out r hr).1; have k4 : w4.heap[w2.heap.size]? = _ := (hkb _ hz7 (fun r hr => by have := hob r hr; omega)).trans KB3.out; have K4 := Lib.hid k4; have KA4 := Lib.hid ((hkb _ hz9 (fun r hr => by have := hob r hr; omega)).trans KA3.out); have KR4 := Lib.hid ((hkb (w.heap.size + 1) (by omega) (fun r hr => by have := hob r hr; omega)).trans KR3.out); obtain ⟨⟨_, _, _, hq4⟩, _, _, _, hp4⟩ := blk4 k4; have hz5 := blklt k4; have hblk := hkb bl hz8 (fun r hr => by have := hob r hr; omega); have n0 := (World.cell?_of_block hblk).trans m0; have n1 := (World.cell?_of_block hblk).trans m1; have n2 := (World.cell?_of_block hblk).trans m2; have n3 := (World.cell?_of_block hblk).trans m3; have n4 := (World.cell?_of_block hblk).trans m4; have na := (blk4 KA4.out).1.2.2.2; have hgb := grown_below (B := w2.heap.size + 1) hgrow hob (Nat.le_trans (Nat.le_of_lt_succ (Nat.succ_lt_succ hz7)) (by simp)); have hB4 : Hid (Below w.heap.size w w4) := Lib.hid ((bdrew1 (hB3.alloc hB3.size (.cells #[.int .i64 d.1.1, .int .i64 n, .int .u32 d.1.2.2, .int .i64 d.2.1, .int .i64 d.2.2] 74))).trans (hgb.mono (by omega))); clear hgb; have hz6 : W0.heap.size ≤ w4.heap.size := (by have := hgrow.size; simp at this; omega); clear hown0 hnext hown hgrow hat hlt3 k4 hkb hob hblk); refine hK.out _ _ ?_ (fun hHeld => ?_); (focus (first | (simp [*, go_sem]; done) | fail)); clear hK K; (try simp only [Act.put, List.setIfInBounds_toArray, List.set_cons_zero, List.set_cons_succ]); refine rg_take 9 (some 48) (v := ?_) rfl (by kernel_rfl) (by kernel_rfl) (by kernel_rfl) (by kernel_rfl) (fun _ _ _ h => h) (Or.inl ⟨by kernel_rfl, ?_⟩) (by assumption) ?_; rotate_left; (focus (intro w' hSw; (try dsimp only at hSw); go_simp; (try with_reducible rfl))); (try simp only [Act.put, List.setIfInBounds_toArray, List.set_cons_zero, List.set_cons_succ]); refine wpAnyH_ready (rs := [10]) (by kernel_rfl) (by simp) ?_; refine AllReadyH.cons rfl (fun K hK => ?_) AllReadyH.nil; (try go_simp); refine hK.out _ _ ?_ (fun hHeld => ?_); (focus (first | (simp [*, go_sem]; done) | fail)); clear hK K; (try simp only [Act.put, List.setIfInBounds_toArray, List.set_cons_zero, List.set_cons_succ]); refine wpAnyH_done (by kernel_rfl) ?_ _)); rotate_left 1; (focus ((try go_simp); refine hK.out _ _ ?_ (fun hHeld => ?_); (focus (first | (simp [*, go_sem]; done) | fail)); clear hK K; (try simp only [Act.put, List.setIfInBounds_toArray, List.set_cons_zero, List.set_cons_succ]); refine wpAnyH_ready (rs := [1]) (by kernel_rfl) (by simp) ?_; refine AllReadyH.cons rfl (fun K hK => ?_) AllReadyH.nil; (try go_simp); refine hK.out _ _ ?_ (fun hHeld => ?_); (focus (first | (simp [*, go_sem]; done) | fail)); clear hK K; (try simp only [Act.put, List.setIfInBounds_toArray, List.set_cons_zero, List.set_cons_succ]); refine wpAnyH_ready (rs := [8]) (by kernel_rfl) (by simp) ?_; refine AllReadyH.cons rfl (fun K hK => ?_) AllReadyH.nil; (obtain ⟨L, hown0, hnext⟩ := AppS.flat flatTerm ((hA.out.below HB3.out).below (bdrew1 (bal (Below.refl _ _) (.cells #[.int .i64 d.1.1, .int .i64 n, .int .u32 d.1.2.2, .int .i64 d.2.1, .int .i64 d.2.2] 74)))); rw [hq.out] at hown0 hnext; refine step_append_lies _ rfl (.tmp 40) (.tmp 46) 26 rfl (w2.heap.size + 1) 74 i1 zv1 5 40 Try.underlying26 I1.out Z1.out hsz1 hby1 hl1 (by decide) o q L rfl hown0 ⟨w3.heap.size, 0, none⟩ 1 1 [.int .i64 d.1.1, .int .i64 n, .int .u32 d.1.2.2, .int .i64 d.2.1, .int .i64 d.2.2] rfl rfl (World.news_of_block (blknew _ _)) (by simp [Value.oneCell']) (by decide) (by unfold maxLen; omega) (by omega) (by simp; omega) _ rfl ?_; intro g1' cap2 w4 hown hgrow hat hlt3; have hN4 := Lib.hid (hnext d HOK.out g1' cap2 w4 (by rw [show encTerm d = [.int .i64 d.1.1, .int .i64 n, .int .u32 d.1.2.2, .int .i64 d.2.1, .int .i64 d.2.2] from by unfold encTerm; rw [hn2.out]]; exact hown) hgrow hat); have hkb : ∀ q', q' < w3.heap.size → (∀ r, o.ownBlock = some r → q' ≠ r) → w4.heap[q']? = w3.heap[q']? := fun q' h1 h2 => (hgrow.block q' (by simp; omega) (fun e => h2 q' e.symm rfl)).trans (Below.heap_alloc _ _ _ (by simpa using h1)); have hob : ∀ r, o.ownBlock = some r → w2.heap.size + 1 ≤ r := fun r hr => (hAge.out r hr).1; have k4 : w4.heap[w2.heap.size]? = _ := (hkb _ hz7 (fun r hr => by have := hob r hr; omega)).trans KB3.out; have K4 := Lib.hid k4; have KA4 := Lib.hid ((hkb _ hz9 (fun r hr => by have := hob r hr; omega)).trans KA3.out); have KR4 := Lib.hid ((hkb (w.heap.size + 1) (by omega) (fun r hr => by have := hob r hr; omega)).trans KR3.out); obtain ⟨⟨_, _, _, hq4⟩, _, _, _, hp4⟩ := blk4 k4; have hz5 := blklt k4; have hblk := hkb bl hz8 (fun r hr => by have := hob r hr; omega); have n0 := (World.cell?_of_block hblk).trans m0; have n1 := (World.cell?_of_block hblk).trans m1; have n2 := (World.cell?_of_block hblk).trans m2; have n3 := (World.cell?_of_block hblk).trans m3; have n4 := (World.cell?_of_block hblk).trans m4; have na := (blk4 KA4.out).1.2.2.2; have hgb := grown_below (B := w2.heap.size + 1) hgrow hob (Nat.le_trans (Nat.le_of_lt_succ (Nat.succ_lt_succ hz7)) (by simp)); have hB4 : Hid (Below w.heap.size w w4) := Lib.hid ((bdrew1 (hB3.alloc hB3.size (.cells #[.int .i64 d.1.1, .int .i64 n, .int .u32 d.1.2.2, .int .i64 d.2.1, .int .i64 d.2.2] 74))).trans (hgb.mono (by omega))); clear hgb; have hz6 : W0.heap.size ≤ w4.heap.size := (by have := hgrow.size; simp at this; omega); clear hown0 hnext hown hgrow hat hlt3 k4 hkb hob hblk); refine hK.out _ _ ?_ (fun hHeld => ?_); (focus (first | (simp [*, go_sem]; done) | fail)); clear hK K; (try simp only [Act.put, List.setIfInBounds_toArray, List.set_cons_zero, List.set_cons_succ]); refine rg_take 9 (some 48) (v := ?_) rfl (by kernel_rfl) (by kernel_rfl) (by kernel_rfl) (by kernel_rfl) (fun _ _ _ h => h) (Or.inl ⟨by kernel_rfl, ?_⟩) (by assumption) ?_; rotate_left; (focus (intro w' hSw; (try dsimp only at hSw); go_simp; (try with_reducible rfl))); (try simp only [Act.put, List.setIfInBounds_toArray, List.set_cons_zero, List.set_cons_succ]); refine wpAnyH_ready (rs := [10]) (by kernel_rfl) (by simp) ?_; refine AllReadyH.cons rfl (fun K hK => ?_) AllReadyH.nil; (try go_simp); refine hK.out _ _ ?_ (fun hHeld => ?_); (focus (first | (simp [*, go_sem]; done) | fail)); clear hK K; (try simp only [Act.put, List.setIfInBounds_toArray, List.set_cons_zero, List.set_cons_succ]); refine wpAnyH_done (by kernel_rfl) ?_ _)); rotate_left 1)
          all_goals
            clear hHeld
            go_wp2_with fail
            go_roundw
            case rel =>
              refine ⟨k + 1, .slice (some ⟨g1', 0, none⟩) (q + 1) cap2, by omega, by go_num, blkset0 K4.out 3 _, blkset KA4.out (by show w.heap.size ≠ w2.heap.size; omega) _, blkset KR4.out (by show w.heap.size + 1 ≠ w2.heap.size; omega) _, Lib.hid ?_, Below.setCell hB4.out (by show w.heap.size ≤ w2.heap.size; omega) _, by simp; omega⟩
              rw [hnx.out]
              exact AppS.move hN4.out fun q h1 _ => Below.heap_setCell _ ⟨w2.heap.size, 3, none⟩ _ q (by show q ≠ w2.heap.size; omega)
            case measure => simp [intOf]; omega
      · have e : k = N := by omega
        subst e
        have hx : Hid (wfL gs (xs.take k) = wfL gs xs) := Lib.hid (by rw [show xs.take k = xs from by rw [← hN.out]; exact List.take_length])
        have hA2 := hA.out
        rw [hx.out] at hA2
        obtain ⟨L, hL⟩ : ∃ L : List shTerm.T, Hid (wfL gs xs = L) := ⟨_, Lib.hid rfl⟩
        rw [hL.out] at hA2
        obtain ⟨A2, cap2, F2, rfl, hO2⟩ := hA2.own
        obtain ⟨q, hq⟩ : ∃ q : Nat, Hid (L.length = q) := ⟨_, Lib.hid rfl⟩
        rw [hq.out] at hO2 p3
        obtain ⟨⟨r0, r1, r2, r3⟩, e0, e1, e2, e3⟩ := blk4 b2
        have HO2 := Lib.hid (hO2.below (B' := w.heap.size + 2) (by omega) (Below.refl _ _))
        clear hA2 hO2 b0 b1 b2
        go_wp2_with fail
        refine bodyPost_ret (v := .tuple #[.agg #[.int .i64 tn, .int .u32 te, .int .i64 s, .slice A2 q cap2], .int .i64 0]) (by simp [results, Try.results30, go_sem, *]) rfl ?_
        rw [hL.out]
        refine ⟨A2, cap2, F2, ?_, ?_, (by (try with_reducible refine bsz ?_); repeat (first | with_reducible exact Below.refl _ _ | ((with_reducible refine bpre ?_); (try simp only [Array.append_assoc]); repeat (first | with_reducible exact Pre.refl _ | with_reducible exact Pre.base _ _ | with_reducible refine Pre.cons _ ?_)) | with_reducible assumption | ((with_reducible refine bsetr ?_); rfl) | with_reducible refine Below.setCell ?_ (by simp <;> omega) _ | with_reducible refine bpl ?_ _ _ | with_reducible refine bal ?_ _ | with_reducible refine bdrew1 ?_ | with_reducible refine bdrew ?_ _))⟩
        · show _ = Ending.returned (.tuple #[.agg #[.int .i64 tn, .int .u32 te, .int .i64 s, .slice A2 L.length cap2], .int .i64 0])
          rw [hq.out]
        · show Own shTerm w.heap.size _ L (.slice A2 L.length cap2) F2
          rw [hq.out]
          refine HO2.out.move (by omega) fun q h1 _ => ?_
          have hne : q ≠ w.heap.size + 1 := by omega
          exact (Below.heap_setCell _ ⟨w.heap.size + 1, 3, none⟩ _ q hne).trans ((Below.heap_setCell _ ⟨w.heap.size + 1, 2, none⟩ _ q hne).trans ((Below.heap_setCell _ ⟨w.heap.size + 1, 1, none⟩ _ q hne).trans (Below.heap_setCell _ ⟨w.heap.size + 1, 0, none⟩ _ q hne)))
end Go.Proofs.Ytfdobpeekipafaa

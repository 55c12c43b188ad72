/- impl.LeastValue. -/
import Derived.Test.YtkfjlimlodbcgaaGreatYa
import Derived.Test.YtkfjlimlodbcgaaGreatWf
import Derived.Test.YtkfjlimlodbcgaaGreatSl
namespace Go.Proofs.YtkfjlimlodbcgaaGreat
open Go.ChangeShapes Go.WideShapes Go.RowKit
set_option linter.unusedVariables false
set_option linter.unusedSimpArgs false
attribute [local irreducible] Calls
set_option maxHeartbeats 4000000 in
theorem LeastValue_any (w : World) (tn te s : Int) (T : List Trm) (gs : List (Int × Int)) (v gv : Value) (hT : Lst shTerm w T v) (hG : Lst shGr w gs gv) (he : 0 ≤ te ∧ te ≤ 4294967295) (hl : gs.length ≤ 1048576) :
    Calls Tryz.prog 10 #[.agg #[.int .i64 tn, .int .u32 te, .int .i64 s, v], gv] w fun r w' => r = .returned (.tuple #[.agg #[.int .i64 (lvR tn te s T gs).1.1, .int .i64 (lvR tn te s T gs).1.2], .agg #[.int .i64 (lvR tn te s T gs).2.1, .int .i64 (lvR tn te s T gs).2.2.1, .int .u32 (lvR tn te s T gs).2.2.2], .int .i64 (lvC tn te s T gs)]) ∧ Below w.heap.size w w' := by
  have HT := Lib.hid hT
  have HG := Lib.hid hG
  have HE := Lib.hid he
  obtain ⟨A, cap, rfl, hcc, hm, hok, _⟩ := lstTerm hT
  obtain ⟨Ag, capg, rfl, _, _⟩ := formGraph hG
  clear hT hG hok
  by_cases hp : lvP tn te s T gs = 0
  rotate_left
  · obtain ⟨c, hcd⟩ : ∃ c, lvP tn te s T gs = c := ⟨_, rfl⟩
    have hc0 : lvC tn te s T gs = c := by unfold lvC; rw [if_neg hp]; exact hcd
    rw [hcd] at hp
    have hr := Lib.hid (lvR_no hc0 hp)
    have hc := Lib.hid hc0
    have HP : Hid (pkC tn te s T gs = c) := Lib.hid hcd
    have hcb : (c != 0) = true := by simpa using hp
    clear hp hc0 hcd he
    go_enter Tryz.func10, Tryz.ntmps10
    go_wp2_with (first | (go_at_call 28; refine Calls.mono (partsOk_any _ tn te s T gs _ _ (HT.out.below (by (try with_reducible refine bsz ?_); repeat (first | with_reducible exact Below.refl _ _ | ((with_reducible refine bpre ?_); (try simp only [Array.append_assoc]); repeat (first | with_reducible exact Pre.refl _ | with_reducible exact Pre.base _ _ | with_reducible refine Pre.cons _ ?_)) | with_reducible assumption | ((with_reducible refine bsetr ?_); rfl) | with_reducible refine Below.setCell ?_ (by simp <;> omega) _ | with_reducible refine bpl ?_ _ _ | with_reducible refine bal ?_ _ | with_reducible refine bdrew1 ?_ | with_reducible refine bdrew ?_ _))) (HG.out.below (by (try with_reducible refine bsz ?_); repeat (first | with_reducible exact Below.refl _ _ | ((with_reducible refine bpre ?_); (try simp only [Array.append_assoc]); repeat (first | with_reducible exact Pre.refl _ | with_reducible exact Pre.base _ _ | with_reducible refine Pre.cons _ ?_)) | with_reducible assumption | ((with_reducible refine bsetr ?_); rfl) | with_reducible refine Below.setCell ?_ (by simp <;> omega) _ | with_reducible refine bpl ?_ _ _ | with_reducible refine bal ?_ _ | with_reducible refine bdrew1 ?_ | with_reducible refine bdrew ?_ _))) HE.out hl) ?_; rw [HP.out]; rintro e w1 ⟨rfl, hb⟩; obtain ⟨X, m, rfl⟩ := plsOf hb; clear hb))
    exact bodyPost_ret (v := .tuple #[.agg #[.int .i64 0, .int .i64 0], .agg #[.int .i64 0, .int .i64 0, .int .u32 0], .int .i64 c]) (by simp [results, Tryz.results10, go_sem]) rfl ⟨by rw [hr.out, hc.out], (by (try with_reducible refine bsz ?_); repeat (first | with_reducible exact Below.refl _ _ | ((with_reducible refine bpre ?_); (try simp only [Array.append_assoc]); repeat (first | with_reducible exact Pre.refl _ | with_reducible exact Pre.base _ _ | with_reducible refine Pre.cons _ ?_)) | with_reducible assumption | ((with_reducible refine bsetr ?_); rfl) | with_reducible refine Below.setCell ?_ (by simp <;> omega) _ | with_reducible refine bpl ?_ _ _ | with_reducible refine bal ?_ _ | with_reducible refine bdrew1 ?_ | with_reducible refine bdrew ?_ _))⟩
  have HP : Hid (pkC tn te s T gs = 0) := Lib.hid hp
  obtain ⟨hs, hfo⟩ : sumOk tn te s T = true ∧ forbC gs = 0 := by
    unfold lvP at hp
    split at hp
    · rename_i h1; exact ⟨h1, hp⟩
    · cases hp
  obtain ⟨tnN, rfl⟩ : ∃ n : Nat, tn = (n : Int) := by
    have h := (sumOk_iff.1 hs).1
    unfold grOk at h
    rw [Bool.and_eq_true] at h
    exact Int.eq_ofNat_of_zero_le (inB_iff.1 h.1).1
  have hsp := (sumOk_iff.1 hs).2.1
  have hsp3 : tnN ≤ 3 ∧ (tnN : Int) ≤ s ∧ s ≤ 5 := by
    simp only [spOk, Bool.and_eq_true, decide_eq_true_eq] at hsp
    have := inB_iff.1 hsp.2
    omega
  obtain ⟨sN, rfl⟩ := Int.eq_ofNat_of_zero_le (show 0 ≤ s by omega)
  have hts : tnN ≤ sN := by omega
  have hs5 : sN ≤ 5 := by omega
  have ht3 : tnN ≤ 3 := by omega
  obtain ⟨hgl, hg5⟩ := forbC_ok hfo
  have hP : lvP tnN te sN T gs = 0 := by unfold lvP; rw [hs]; exact hfo
  obtain ⟨GL, hGL, N, hN, hLn, hNl⟩ : ∃ GL : List Flg, Hid (flagsF tnN te sN gs = GL) ∧ ∃ N : Nat, Hid (GL.length = N) ∧ Hid ((flagsL tnN te sN gs).length = N) ∧ N ≤ 1024 :=
    ⟨_, Lib.hid rfl, _, Lib.hid rfl, Lib.hid (List.length_map _).symm, by rw [show (flagsF tnN te sN gs).length = (flagsL tnN te sN gs).length from List.length_map _]; exact flagsL_len tnN te sN hs5 gs⟩
  have hC : lvC tnN te sN T gs = if N ≤ 64 then (if N = 0 then 6 else 0) else 3 := by
    unfold lvC
    rw [if_pos hP, show (tnN : Int).toNat = tnN from rfl, show (sN : Int).toNat = sN from rfl, hLn.out]
  obtain ⟨CF, hCF⟩ : ∃ CF, Hid (coefR tnN te sN T = CF) := ⟨_, Lib.hid rfl⟩
  have hmem : Hid (∀ f ∈ GL, okFlag f ∧ inF (CF f)) := Lib.hid fun f hf => by
    rw [← hGL.out] at hf
    obtain ⟨m1, m2, m3, m4⟩ := flagsF_mem ht3 hts hs5 hf
    rw [← hCF.out]
    exact ⟨m4, coefR_in hs m3 (lv_fits ht3 hts hs5 hf)⟩
  have HCF : Hid (∀ W f, f ∈ GL → Below w.heap.size w W → Calls Tryz.prog 30 #[.agg #[.int .i64 tnN, .int .u32 te, .int .i64 sN, .slice A T.length cap], .agg #[.int .i64 f.1, .int .i64 f.2.1, .int .u32 f.2.2]] W fun e w' => ∃ k : Int, e = .returned (.tuple #[.agg #[.int .i64 (CF f).1, .int .i64 (CF f).2], .int .i64 k]) ∧ Below W.heap.size W w') := Lib.hid fun W f hf hW => by
    have := CoefficientOf_any W tnN te sN T f _ (HT.out.below hW) HE.out (hmem.out f hf).1
    rw [hCF.out] at this
    exact this.mono fun e w' h => ⟨_, h⟩
  have HAF : Hid (∀ W u, Lst shGr W gs u → Calls Tryz.prog 29 #[.agg #[.int .i64 tnN, .int .u32 te], .int .i64 sN, u] W (FlsRetB W.heap.size W GL (decide (N ≤ 64)))) := Lib.hid fun W u hu => by
    have := allFlags_any W tnN sN te gs u hu hts hs5 hl hg5
    rw [hGL.out, hLn.out] at this
    exact this
  clear hp hs hfo hsp hsp3 hP he hgl hg5
  go_enter Tryz.func10, Tryz.ntmps10
  go_wp2_with (first | (go_at_call 28; refine Calls.mono (partsOk_any _ tnN te sN T gs _ _ (HT.out.below (by (try with_reducible refine bsz ?_); repeat (first | with_reducible exact Below.refl _ _ | ((with_reducible refine bpre ?_); (try simp only [Array.append_assoc]); repeat (first | with_reducible exact Pre.refl _ | with_reducible exact Pre.base _ _ | with_reducible refine Pre.cons _ ?_)) | with_reducible assumption | ((with_reducible refine bsetr ?_); rfl) | with_reducible refine Below.setCell ?_ (by simp <;> omega) _ | with_reducible refine bpl ?_ _ _ | with_reducible refine bal ?_ _ | with_reducible refine bdrew1 ?_ | with_reducible refine bdrew ?_ _))) (HG.out.below (by (try with_reducible refine bsz ?_); repeat (first | with_reducible exact Below.refl _ _ | ((with_reducible refine bpre ?_); (try simp only [Array.append_assoc]); repeat (first | with_reducible exact Pre.refl _ | with_reducible exact Pre.base _ _ | with_reducible refine Pre.cons _ ?_)) | with_reducible assumption | ((with_reducible refine bsetr ?_); rfl) | with_reducible refine Below.setCell ?_ (by simp <;> omega) _ | with_reducible refine bpl ?_ _ _ | with_reducible refine bal ?_ _ | with_reducible refine bdrew1 ?_ | with_reducible refine bdrew ?_ _))) HE.out hl) ?_; rw [HP.out]; rintro e w1 ⟨rfl, hb⟩; obtain ⟨X, m, rfl⟩ := plsOf hb; clear hb))
  refine Calls.mono (HAF.out _ _ (HG.out.below (by (try with_reducible refine bsz ?_); repeat (first | with_reducible exact Below.refl _ _ | ((with_reducible refine bpre ?_); (try simp only [Array.append_assoc]); repeat (first | with_reducible exact Pre.refl _ | with_reducible exact Pre.base _ _ | with_reducible refine Pre.cons _ ?_)) | with_reducible assumption | ((with_reducible refine bsetr ?_); rfl) | with_reducible refine Below.setCell ?_ (by simp <;> omega) _ | with_reducible refine bpl ?_ _ _ | with_reducible refine bal ?_ _ | with_reducible refine bdrew1 ?_ | with_reducible refine bdrew ?_ _)))) ?_
  rintro e0 w1 ⟨A1, cap1, F1, rfl, hO1, hb⟩
  rw [show List.length (α := shFlag.T) GL = N from hN.out] at hO1 ⊢
  have HB1 := Lib.hid (show Below w.heap.size w w1 from Below.trans (by (try with_reducible refine bsz ?_); repeat (first | with_reducible exact Below.refl _ _ | ((with_reducible refine bpre ?_); (try simp only [Array.append_assoc]); repeat (first | with_reducible exact Pre.refl _ | with_reducible exact Pre.base _ _ | with_reducible refine Pre.cons _ ?_)) | with_reducible assumption | ((with_reducible refine bsetr ?_); rfl) | with_reducible refine Below.setCell ?_ (by simp <;> omega) _ | with_reducible refine bpl ?_ _ _ | with_reducible refine bal ?_ _ | with_reducible refine bdrew1 ?_ | with_reducible refine bdrew ?_ _)) (hb.mono (by simp <;> omega)))
  have K0 : Hid (w1.heap[w.heap.size]? = some (.cells #[.int .i64 tnN, .int .u32 te, .int .i64 sN, .slice A T.length cap] 40 (0, 0))) := Lib.hid (bblk hb (by simp <;> omega) (by repeat (first | with_reducible assumption | with_reducible refine pls_block _ _ ?_ | with_reducible apply blkset2 | with_reducible apply blkset1 | ((with_reducible refine blksetN ?_ ?_ _); (focus (simp <;> omega))) | with_reducible exact blknew _ _ | ((with_reducible refine blknew' _ _ _ ?_); (simp <;> omega)) | with_reducible refine blkal ?_ _)))
  have K1 : Hid (w1.heap[w.heap.size + 1]? = some (.cells #[.int .i64 0, .int .i64 0] 32 (0, 0))) := Lib.hid (bblk hb (by simp <;> omega) (by repeat (first | with_reducible assumption | with_reducible refine pls_block _ _ ?_ | with_reducible apply blkset2 | with_reducible apply blkset1 | ((with_reducible refine blksetN ?_ ?_ _); (focus (simp <;> omega))) | with_reducible exact blknew _ _ | ((with_reducible refine blknew' _ _ _ ?_); (simp <;> omega)) | with_reducible refine blkal ?_ _)))
  have K2 : Hid (w1.heap[w.heap.size + 1 + 1]? = some (.cells #[.int .i64 0, .int .i64 0, .int .u32 0] 35 (0, 0))) := Lib.hid (bblk hb (by simp <;> omega) (by repeat (first | with_reducible assumption | with_reducible refine pls_block _ _ ?_ | with_reducible apply blkset2 | with_reducible apply blkset1 | ((with_reducible refine blksetN ?_ ?_ _); (focus (simp <;> omega))) | with_reducible exact blknew _ _ | ((with_reducible refine blknew' _ _ _ ?_); (simp <;> omega)) | with_reducible refine blkal ?_ _)))
  have HO1 := Lib.hid (show Own shFlag 0 w1 GL (.slice A1 N cap1) F1 from hO1.below (Nat.zero_le _) (Below.refl _ _))
  have y0 := blklt K0.out
  have y1 := blklt K1.out
  have y2 := blklt K2.out
  obtain ⟨r0, r1, r2, r3⟩ := blk2 K1.out
  obtain ⟨r4, r5, r6, r7, r8, r9⟩ := blk3 K2.out
  have hz1 := HB1.out.size
  clear hb hO1
  by_cases h64 : N ≤ 64
  rotate_left
  · have hc0 : lvC tnN te sN T gs = 3 := by rw [hC, if_neg h64]
    have hr := Lib.hid (lvR_no hc0 (by decide))
    have hc := Lib.hid hc0
    have hd : decide (N ≤ 64) = false := by simp; omega
    rw [hd]
    clear hd
    have hb1 := HB1.out
    go_wp2_with fail
    exact bodyPost_ret (v := .tuple #[.agg #[.int .i64 0, .int .i64 0], .agg #[.int .i64 0, .int .i64 0, .int .u32 0], .int .i64 3]) (by simp [results, Tryz.results10, go_sem, *]) rfl ⟨by rw [hr.out, hc.out], (by (try with_reducible refine bsz ?_); repeat (first | with_reducible exact Below.refl _ _ | ((with_reducible refine bpre ?_); (try simp only [Array.append_assoc]); repeat (first | with_reducible exact Pre.refl _ | with_reducible exact Pre.base _ _ | with_reducible refine Pre.cons _ ?_)) | with_reducible assumption | ((with_reducible refine bsetr ?_); rfl) | with_reducible refine Below.setCell ?_ (by simp <;> omega) _ | with_reducible refine bpl ?_ _ _ | with_reducible refine bal ?_ _ | with_reducible refine bdrew1 ?_ | with_reducible refine bdrew ?_ _))⟩
  have hd : decide (N ≤ 64) = true := by simp; omega
  rw [hd]
  clear hd
  by_cases hn0 : N = 0
  · have hc0 : lvC tnN te sN T gs = 6 := by rw [hC, if_pos h64, if_pos hn0]
    have hr := Lib.hid (lvR_no hc0 (by decide))
    have hc := Lib.hid hc0
    subst hn0
    have hb1 := HB1.out
    go_wp2_with fail
    exact bodyPost_ret (v := .tuple #[.agg #[.int .i64 0, .int .i64 0], .agg #[.int .i64 0, .int .i64 0, .int .u32 0], .int .i64 6]) (by simp [results, Tryz.results10, go_sem, *]) rfl ⟨by rw [hr.out, hc.out], (by (try with_reducible refine bsz ?_); repeat (first | with_reducible exact Below.refl _ _ | ((with_reducible refine bpre ?_); (try simp only [Array.append_assoc]); repeat (first | with_reducible exact Pre.refl _ | with_reducible exact Pre.base _ _ | with_reducible refine Pre.cons _ ?_)) | with_reducible assumption | ((with_reducible refine bsetr ?_); rfl) | with_reducible refine Below.setCell ?_ (by simp <;> omega) _ | with_reducible refine bpl ?_ _ _ | with_reducible refine bal ?_ _ | with_reducible refine bdrew1 ?_ | with_reducible refine bdrew ?_ _))⟩
  have hc0 : lvC tnN te sN T gs = 0 := by rw [hC, if_pos h64, if_neg hn0]
  have hc := Lib.hid hc0
  have hr : Hid (lvR tnN te sN T gs = lvA CF GL N) := Lib.hid (by
    unfold lvR
    rw [if_pos hc0, show (tnN : Int).toNat = tnN from rfl, show (sN : Int).toNat = sN from rfl, hCF.out, hGL.out, hLn.out])
  have hnb : ((N : Int) == 0) = false := by rw [beq_eq_false_iff_ne]; omega
  obtain ⟨q, hq⟩ : ∃ q, w1.heap.size = q := ⟨_, rfl⟩
  have hF1 : Hid (∀ b ∈ F1, b < q) := Lib.hid fun b hb => by rw [← hq]; exact HO1.out.lt b hb
  have hq0 : w.heap.size + 1 + 1 < q := by omega
  clear hC hc0
  go_wp2_with fail
  go_loopw [48] (fun i wr => ∃ (a : Nat) (m : Int × Int) (f : Flg), a ≤ N ∧ i = .int .i64 a ∧ Hid (lvA CF GL a = (m, f)) ∧ Hid (0 < a → inF m) ∧ wr.heap[q]? = some (.cells #[.int .i64 m.1, .int .i64 m.2] 32 (0, 0)) ∧ wr.heap[q + 1]? = some (.cells #[.int .i64 f.1, .int .i64 f.2.1, .int .u32 f.2.2] 35 (0, 0)) ∧ wr.heap[w.heap.size]? = some (.cells #[.int .i64 tnN, .int .u32 te, .int .i64 sN, .slice A T.length cap] 40 (0, 0)) ∧ wr.heap[w.heap.size + 1]? = some (.cells #[.int .i64 0, .int .i64 0] 32 (0, 0)) ∧ wr.heap[w.heap.size + 1 + 1]? = some (.cells #[.int .i64 0, .int .i64 0, .int .u32 0] 35 (0, 0)) ∧ Hid (Own shFlag 0 wr GL (.slice A1 N cap1) F1) ∧ Below w.heap.size w wr) (fun i _ => N - (intOf i).toNat)
  case atStart =>
    have hb1 := HB1.out
    have k0 := K0.out
    have k1 := K1.out
    have k2 := K2.out
    exact ⟨0, (0, 0), (0, (0, 0)), Nat.zero_le _, rfl, Lib.hid rfl, Lib.hid (fun h => absurd h (by decide)), by subst hq; exact (by repeat (first | with_reducible assumption | with_reducible refine pls_block _ _ ?_ | with_reducible apply blkset2 | with_reducible apply blkset1 | ((with_reducible refine blksetN ?_ ?_ _); (focus (simp <;> omega))) | with_reducible exact blknew _ _ | ((with_reducible refine blknew' _ _ _ ?_); (simp <;> omega)) | with_reducible refine blkal ?_ _)), by subst hq; exact (by repeat (first | with_reducible assumption | with_reducible refine pls_block _ _ ?_ | with_reducible apply blkset2 | with_reducible apply blkset1 | ((with_reducible refine blksetN ?_ ?_ _); (focus (simp <;> omega))) | with_reducible exact blknew _ _ | ((with_reducible refine blknew' _ _ _ ?_); (simp <;> omega)) | with_reducible refine blkal ?_ _)), (by repeat (first | with_reducible assumption | with_reducible refine pls_block _ _ ?_ | with_reducible apply blkset2 | with_reducible apply blkset1 | ((with_reducible refine blksetN ?_ ?_ _); (focus (simp <;> omega))) | with_reducible exact blknew _ _ | ((with_reducible refine blknew' _ _ _ ?_); (simp <;> omega)) | with_reducible refine blkal ?_ _)), (by repeat (first | with_reducible assumption | with_reducible refine pls_block _ _ ?_ | with_reducible apply blkset2 | with_reducible apply blkset1 | ((with_reducible refine blksetN ?_ ?_ _); (focus (simp <;> omega))) | with_reducible exact blknew _ _ | ((with_reducible refine blknew' _ _ _ ?_); (simp <;> omega)) | with_reducible refine blkal ?_ _)), (by repeat (first | with_reducible assumption | with_reducible refine pls_block _ _ ?_ | with_reducible apply blkset2 | with_reducible apply blkset1 | ((with_reducible refine blksetN ?_ ?_ _); (focus (simp <;> omega))) | with_reducible exact blknew _ _ | ((with_reducible refine blknew' _ _ _ ?_); (simp <;> omega)) | with_reducible refine blkal ?_ _)), Lib.hid (HO1.out.below (Nat.le_refl _) (by subst hq; exact (by (try with_reducible refine bsz ?_); repeat (first | with_reducible exact Below.refl _ _ | ((with_reducible refine bpre ?_); (try simp only [Array.append_assoc]); repeat (first | with_reducible exact Pre.refl _ | with_reducible exact Pre.base _ _ | with_reducible refine Pre.cons _ ?_)) | with_reducible assumption | ((with_reducible refine bsetr ?_); rfl) | with_reducible refine Below.setCell ?_ (by simp <;> omega) _ | with_reducible refine bpl ?_ _ _ | with_reducible refine bal ?_ _ | with_reducible refine bdrew1 ?_ | with_reducible refine bdrew ?_ _)))), (by (try with_reducible refine bsz ?_); repeat (first | with_reducible exact Below.refl _ _ | ((with_reducible refine bpre ?_); (try simp only [Array.append_assoc]); repeat (first | with_reducible exact Pre.refl _ | with_reducible exact Pre.base _ _ | with_reducible refine Pre.cons _ ?_)) | with_reducible assumption | ((with_reducible refine bsetr ?_); rfl) | with_reducible refine Below.setCell ?_ (by simp <;> omega) _ | with_reducible refine bpl ?_ _ _ | with_reducible refine bal ?_ _ | with_reducible refine bdrew1 ?_ | with_reducible refine bdrew ?_ _))⟩
  case round =>
    obtain ⟨a, m, f, ha, rfl, hA, hmi, kq, kf, k0, k1, k2, hO, hB⟩ := hrel
    obtain ⟨W0, rfl⟩ : ∃ x, x = wr := ⟨_, rfl⟩
    have yq := blklt kq
    have yf := blklt kf
    have y0' := blklt k0
    have KQ := Lib.hid kq
    have KF := Lib.hid kf
    have K0' := Lib.hid k0
    have K1' := Lib.hid k1
    have K2' := Lib.hid k2
    have hzB := hB.size
    obtain ⟨a0, a1, a2, a3⟩ := blkc4 k0
    by_cases hlt : a < N
    · have hk8 : (a : Int) < (N : Int) := by omega
      obtain ⟨_, _, hv, _, _, hoks, hel⟩ := lstFlag hO.out.lst
      injection hv with e1 e2 e3
      obtain ⟨bl, off, e4, hel⟩ := hel (by omega)
      rw [← e1] at e4
      subst e4
      obtain ⟨x, hx, hok, c0, c1, c2⟩ := hel a (by omega)
      have zb := World.block_lt_of_cell? _ _ c0
      simp only at zb
      have hxm := List.mem_of_getElem? hx
      obtain ⟨hxo, hxi⟩ := hmem.out x hxm
      have HXM := Lib.hid hxm
      have HX := Lib.hid hx
      obtain ⟨y, hy⟩ : ∃ y, Hid (CF x = y) := ⟨_, Lib.hid rfl⟩
      have HYI : Hid (inF y) := Lib.hid (by rw [← hy.out]; exact hxi)
      have hne1 : W0.heap.size ≠ q := by omega
      have hne2 : W0.heap.size ≠ q + 1 := by omega
      clear kq kf k0 k1 k2 hel hoks hx hok e1 e2 e3 hxm hxo hxi
      by_cases ha0 : a = 0
      · subst ha0
        simp only [Nat.zero_mul, Nat.add_zero] at c0 c1 c2
        have hnx : Hid (lvA CF GL (0 + 1) = (y, x)) := Lib.hid (by rw [Nat.zero_add, lvA_zero HX.out, hy.out])
        have hab : (((0 : Nat) : Int) == 0) = true := rfl
        go_wp2_with fail
        refine Calls.mono (HCF.out _ x HXM.out (by first | exact (by (try with_reducible refine bsz ?_); repeat (first | with_reducible exact Below.refl _ _ | ((with_reducible refine bpre ?_); (try simp only [Array.append_assoc]); repeat (first | with_reducible exact Pre.refl _ | with_reducible exact Pre.base _ _ | with_reducible refine Pre.cons _ ?_)) | with_reducible assumption | ((with_reducible refine bsetr ?_); rfl) | with_reducible refine Below.setCell ?_ (by simp <;> omega) _ | with_reducible refine bpl ?_ _ _ | with_reducible refine bal ?_ _ | with_reducible refine bdrew1 ?_ | with_reducible refine bdrew ?_ _)) | exact hB.trans ((bal (Below.refl _ _) _).mono hzB))) ?_
        rintro e0 w3 ⟨kk, rfl, hb⟩
        rw [hy.out]
        have HB3 := Lib.hid (show Below W0.heap.size W0 w3 from Below.trans (by (try with_reducible refine bsz ?_); repeat (first | with_reducible exact Below.refl _ _ | ((with_reducible refine bpre ?_); (try simp only [Array.append_assoc]); repeat (first | with_reducible exact Pre.refl _ | with_reducible exact Pre.base _ _ | with_reducible refine Pre.cons _ ?_)) | with_reducible assumption | ((with_reducible refine bsetr ?_); rfl) | with_reducible refine Below.setCell ?_ (by simp <;> omega) _ | with_reducible refine bpl ?_ _ _ | with_reducible refine bal ?_ _ | with_reducible refine bdrew1 ?_ | with_reducible refine bdrew ?_ _)) (hb.mono (by simp)))
        have kx3 : w3.heap[W0.heap.size]? = some (.cells #[.int .i64 x.1, .int .i64 x.2.1, .int .u32 x.2.2] 35 (0, 0)) := bblk hb (by simp) (by repeat (first | with_reducible assumption | with_reducible refine pls_block _ _ ?_ | with_reducible apply blkset2 | with_reducible apply blkset1 | ((with_reducible refine blksetN ?_ ?_ _); (focus (simp <;> omega))) | with_reducible exact blknew _ _ | ((with_reducible refine blknew' _ _ _ ?_); (simp <;> omega)) | with_reducible refine blkal ?_ _))
        have kq3 := bblk HB3.out yq KQ.out
        have kf3 := bblk HB3.out yf KF.out
        obtain ⟨q0, q1, qf0, qf1⟩ := blk2 kq3
        obtain ⟨g0, g1, g2, gf0, gf1, gf2⟩ := blk3 kf3
        obtain ⟨x0, x1, x2⟩ := blkc3 kx3
        have yq3 := blklt kq3
        have yf3 := blklt kf3
        have yx3 := blklt kx3
        have KX3 := Lib.hid kx3
        have hne3 : w3.heap.size ≠ q := by omega
        have hne4 : w3.heap.size ≠ q + 1 := by omega
        have hz3 := HB3.out.size
        clear hb kx3 kq3 kf3
        go_wp2_with fail
        (refine wp_region_held_drew (S := (fun w' => w'.cell? ⟨w3.heap.size, 0, none⟩ = some (.int .i64 y.1) ∧ w'.cell? ⟨w3.heap.size, 1, none⟩ = some (.int .i64 y.2) ∧ w'.cell? ⟨W0.heap.size, 0, none⟩ = some (.int .i64 x.1) ∧ w'.cell? ⟨W0.heap.size, 1, none⟩ = some (.int .i64 x.2.1) ∧ w'.cell? ⟨W0.heap.size, 2, none⟩ = some (.int .u32 x.2.2))) (by kernel_rfl) ?_ (fun hHeld => ?_); (focus (first | exact hS | (simp [*, go_sem]; done) | fail)); refine rg_take 0 (some 67) (v := ?_) rfl (by kernel_rfl) (by kernel_rfl) (by kernel_rfl) (by kernel_rfl) (fun _ _ _ h => h) (Or.inl ⟨by kernel_rfl, ?_⟩) (by assumption) ?_; rotate_left; (focus (intro w' hSw; (try dsimp only at hSw); go_simp; (try with_reducible rfl))); (try simp only [Act.put, List.setIfInBounds_toArray, List.set_cons_zero, List.set_cons_succ]); refine rg_take 1 (some 68) (v := ?_) rfl (by kernel_rfl) (by kernel_rfl) (by kernel_rfl) (by kernel_rfl) (fun _ _ _ h => h) (Or.inl ⟨by kernel_rfl, ?_⟩) (by assumption) ?_; rotate_left; (focus (intro w' hSw; (try dsimp only at hSw); go_simp; (try with_reducible rfl))); (try simp only [Act.put, List.setIfInBounds_toArray, List.set_cons_zero, List.set_cons_succ]); refine wpAnyH_ready (rs := [2]) (by kernel_rfl) (by simp) ?_; refine AllReadyH.cons rfl (fun K hK => ?_) AllReadyH.nil; (try go_simp); refine hK.out _ _ ?_ (fun hHeld => ?_); (focus (first | exact hS | (simp [*, go_sem]; done) | fail)); clear hK K; (try simp only [Act.put, List.setIfInBounds_toArray, List.set_cons_zero, List.set_cons_succ]); refine wpAnyH_ready (rs := [3]) (by kernel_rfl) (by simp) ?_; refine AllReadyH.cons rfl (fun K hK => ?_) AllReadyH.nil; (try go_simp); refine hK.out _ _ ?_ (fun hHeld => ?_); (focus (first | exact hS | (simp [*, go_sem]; done) | fail)); clear hK K; (try simp only [Act.put, List.setIfInBounds_toArray, List.set_cons_zero, List.set_cons_succ]); refine wpAnyH_done (by kernel_rfl) ?_ _)
        clear hHeld
        go_wp2_with fail
        go_roundw
        case rel =>
          have hb3 := HB3.out
          have hq := setQ_facts (w := w3) (y := y) (x := x) (bblk hb3 yq KQ.out) (bblk hb3 yf KF.out)
          exact ⟨0 + 1, y, x, by omega, by go_num, hnx, Lib.hid (fun _ => HYI.out), blkdrew (blkal hq.1 _), blkdrew (blkal hq.2.1 _), blkdrew (blkal (hq.2.2.1 _ _ (by omega) (by omega) (bblk hb3 y0' K0'.out)) _), blkdrew (blkal (hq.2.2.1 _ _ (by omega) (by omega) (bblk hb3 (blklt K1'.out) K1'.out)) _), blkdrew (blkal (hq.2.2.1 _ _ (by omega) (by omega) (bblk hb3 (blklt K2'.out) K2'.out)) _), Lib.hid (((hO.out.below (Nat.le_refl _) hb3).chg hq.2.2.2.1 (fun b hb => by have := hF1.out b hb; simp; omega)).below (Nat.le_refl _) (bdrew1 (bal (Below.refl _ _) _))), bdrew1 (bal (hq.2.2.2.2 w.heap.size w (hB.trans (hb3.mono hzB)) (by omega)) _)⟩
        case measure => simp [intOf]; omega
      · have ha1 : 0 < a := by omega
        have hab : ((a : Int) == 0) = false := by rw [beq_eq_false_iff_ne]; omega
        have HMI := Lib.hid (hmi.out ha1)
        obtain ⟨cv, hcv⟩ : ∃ cv, Hid (cmpY (y.1 * m.2) (m.1 * y.2) = cv) := ⟨_, Lib.hid rfl⟩
        have HCMP : Hid (∀ w, Calls Tryz.prog 31 #[.agg #[.int .i64 y.1, .int .i64 y.2], .agg #[.int .i64 m.1, .int .i64 m.2]] w fun e w' => e = .returned (.int .i64 cv) ∧ Below w.heap.size w w') := Lib.hid fun w => by
          have := compareF_any y m w HYI.out HMI.out
          rw [hcv.out] at this
          exact this
        have hnx0 : lvA CF GL (a + 1) = if cv < 0 then (y, x) else (m, f) := by
          rw [lvA_succ HX.out ha1, hA.out]
          unfold lvB
          simp only
          rw [hy.out, hcv.out]
        by_cases hlt0 : cv < 0
        · have hnx : Hid (lvA CF GL (a + 1) = (y, x)) := Lib.hid (by rw [hnx0, if_pos hlt0])
          clear hnx0
          go_wp2_with fail
          refine Calls.mono (HCF.out _ x HXM.out (by first | exact (by (try with_reducible refine bsz ?_); repeat (first | with_reducible exact Below.refl _ _ | ((with_reducible refine bpre ?_); (try simp only [Array.append_assoc]); repeat (first | with_reducible exact Pre.refl _ | with_reducible exact Pre.base _ _ | with_reducible refine Pre.cons _ ?_)) | with_reducible assumption | ((with_reducible refine bsetr ?_); rfl) | with_reducible refine Below.setCell ?_ (by simp <;> omega) _ | with_reducible refine bpl ?_ _ _ | with_reducible refine bal ?_ _ | with_reducible refine bdrew1 ?_ | with_reducible refine bdrew ?_ _)) | exact hB.trans ((bal (Below.refl _ _) _).mono hzB))) ?_
          rintro e0 w3 ⟨kk, rfl, hb⟩
          rw [hy.out]
          have HB3 := Lib.hid (show Below W0.heap.size W0 w3 from Below.trans (by (try with_reducible refine bsz ?_); repeat (first | with_reducible exact Below.refl _ _ | ((with_reducible refine bpre ?_); (try simp only [Array.append_assoc]); repeat (first | with_reducible exact Pre.refl _ | with_reducible exact Pre.base _ _ | with_reducible refine Pre.cons _ ?_)) | with_reducible assumption | ((with_reducible refine bsetr ?_); rfl) | with_reducible refine Below.setCell ?_ (by simp <;> omega) _ | with_reducible refine bpl ?_ _ _ | with_reducible refine bal ?_ _ | with_reducible refine bdrew1 ?_ | with_reducible refine bdrew ?_ _)) (hb.mono (by simp)))
          have kx3 : w3.heap[W0.heap.size]? = some (.cells #[.int .i64 x.1, .int .i64 x.2.1, .int .u32 x.2.2] 35 (0, 0)) := bblk hb (by simp) (by repeat (first | with_reducible assumption | with_reducible refine pls_block _ _ ?_ | with_reducible apply blkset2 | with_reducible apply blkset1 | ((with_reducible refine blksetN ?_ ?_ _); (focus (simp <;> omega))) | with_reducible exact blknew _ _ | ((with_reducible refine blknew' _ _ _ ?_); (simp <;> omega)) | with_reducible refine blkal ?_ _))
          have kq3 := bblk HB3.out yq KQ.out
          have kf3 := bblk HB3.out yf KF.out
          obtain ⟨q0, q1, qf0, qf1⟩ := blk2 kq3
          obtain ⟨g0, g1, g2, gf0, gf1, gf2⟩ := blk3 kf3
          obtain ⟨x0, x1, x2⟩ := blkc3 kx3
          have yq3 := blklt kq3
          have yf3 := blklt kf3
          have yx3 := blklt kx3
          have KX3 := Lib.hid kx3
          have hne3 : w3.heap.size ≠ q := by omega
          have hne4 : w3.heap.size ≠ q + 1 := by omega
          have hz3 := HB3.out.size
          clear hb kx3 kq3 kf3
          go_wp2_with fail
          refine Calls.mono (HCMP.out _) ?_
          rintro e0 w4 ⟨rfl, hb⟩
          have HB4 := Lib.hid (show Below W0.heap.size W0 w4 from Below.trans (by have hb3 := HB3.out; exact (by (try with_reducible refine bsz ?_); repeat (first | with_reducible exact Below.refl _ _ | ((with_reducible refine bpre ?_); (try simp only [Array.append_assoc]); repeat (first | with_reducible exact Pre.refl _ | with_reducible exact Pre.base _ _ | with_reducible refine Pre.cons _ ?_)) | with_reducible assumption | ((with_reducible refine bsetr ?_); rfl) | with_reducible refine Below.setCell ?_ (by simp <;> omega) _ | with_reducible refine bpl ?_ _ _ | with_reducible refine bal ?_ _ | with_reducible refine bdrew1 ?_ | with_reducible refine bdrew ?_ _))) (hb.mono (by simp; omega)))
          have kx4 : w4.heap[W0.heap.size]? = some (.cells #[.int .i64 x.1, .int .i64 x.2.1, .int .u32 x.2.2] 35 (0, 0)) := bblk hb (by simp; omega) (blkal KX3.out _)
          have ky4 : w4.heap[w3.heap.size]? = some (.cells #[.int .i64 y.1, .int .i64 y.2] 32 (0, 0)) := bblk hb (by simp) (by repeat (first | with_reducible assumption | with_reducible refine pls_block _ _ ?_ | with_reducible apply blkset2 | with_reducible apply blkset1 | ((with_reducible refine blksetN ?_ ?_ _); (focus (simp <;> omega))) | with_reducible exact blknew _ _ | ((with_reducible refine blknew' _ _ _ ?_); (simp <;> omega)) | with_reducible refine blkal ?_ _))
          clear x0 x1 x2 q0 q1 qf0 qf1 g0 g1 g2 gf0 gf1 gf2
          have kq4 := bblk HB4.out yq KQ.out
          have kf4 := bblk HB4.out yf KF.out
          obtain ⟨q0, q1, qf0, qf1⟩ := blk2 kq4
          obtain ⟨g0, g1, g2, gf0, gf1, gf2⟩ := blk3 kf4
          obtain ⟨x0, x1, x2⟩ := blkc3 kx4
          obtain ⟨z0, z1⟩ := blkc2 ky4
          have yq4 := blklt kq4
          have yf4 := blklt kf4
          have yx4 := blklt kx4
          have yy4 := blklt ky4
          have hz4 := HB4.out.size
          clear hb kx4 ky4 kq4 kf4
          go_wp2_with fail
          (refine wp_region_held_drew (S := (fun w' => w'.cell? ⟨w3.heap.size, 0, none⟩ = some (.int .i64 y.1) ∧ w'.cell? ⟨w3.heap.size, 1, none⟩ = some (.int .i64 y.2) ∧ w'.cell? ⟨W0.heap.size, 0, none⟩ = some (.int .i64 x.1) ∧ w'.cell? ⟨W0.heap.size, 1, none⟩ = some (.int .i64 x.2.1) ∧ w'.cell? ⟨W0.heap.size, 2, none⟩ = some (.int .u32 x.2.2))) (by kernel_rfl) ?_ (fun hHeld => ?_); (focus (first | exact hS | (simp [*, go_sem]; done) | fail)); refine rg_take 0 (some 67) (v := ?_) rfl (by kernel_rfl) (by kernel_rfl) (by kernel_rfl) (by kernel_rfl) (fun _ _ _ h => h) (Or.inl ⟨by kernel_rfl, ?_⟩) (by assumption) ?_; rotate_left; (focus (intro w' hSw; (try dsimp only at hSw); go_simp; (try with_reducible rfl))); (try simp only [Act.put, List.setIfInBounds_toArray, List.set_cons_zero, List.set_cons_succ]); refine rg_take 1 (some 68) (v := ?_) rfl (by kernel_rfl) (by kernel_rfl) (by kernel_rfl) (by kernel_rfl) (fun _ _ _ h => h) (Or.inl ⟨by kernel_rfl, ?_⟩) (by assumption) ?_; rotate_left; (focus (intro w' hSw; (try dsimp only at hSw); go_simp; (try with_reducible rfl))); (try simp only [Act.put, List.setIfInBounds_toArray, List.set_cons_zero, List.set_cons_succ]); refine wpAnyH_ready (rs := [2]) (by kernel_rfl) (by simp) ?_; refine AllReadyH.cons rfl (fun K hK => ?_) AllReadyH.nil; (try go_simp); refine hK.out _ _ ?_ (fun hHeld => ?_); (focus (first | exact hS | (simp [*, go_sem]; done) | fail)); clear hK K; (try simp only [Act.put, List.setIfInBounds_toArray, List.set_cons_zero, List.set_cons_succ]); refine wpAnyH_ready (rs := [3]) (by kernel_rfl) (by simp) ?_; refine AllReadyH.cons rfl (fun K hK => ?_) AllReadyH.nil; (try go_simp); refine hK.out _ _ ?_ (fun hHeld => ?_); (focus (first | exact hS | (simp [*, go_sem]; done) | fail)); clear hK K; (try simp only [Act.put, List.setIfInBounds_toArray, List.set_cons_zero, List.set_cons_succ]); refine wpAnyH_done (by kernel_rfl) ?_ _)
          clear hHeld
          go_wp2_with fail
          go_roundw
          case rel =>
            have hb4 := HB4.out
            have hq := setQ_facts (w := w4) (y := y) (x := x) (bblk hb4 yq KQ.out) (bblk hb4 yf KF.out)
            exact ⟨a + 1, y, x, by omega, by go_num, hnx, Lib.hid (fun _ => HYI.out), blkdrew (hq.1), blkdrew (hq.2.1), blkdrew ((hq.2.2.1 _ _ (by omega) (by omega) (bblk hb4 y0' K0'.out))), blkdrew ((hq.2.2.1 _ _ (by omega) (by omega) (bblk hb4 (blklt K1'.out) K1'.out))), blkdrew ((hq.2.2.1 _ _ (by omega) (by omega) (bblk hb4 (blklt K2'.out) K2'.out))), Lib.hid (((hO.out.below (Nat.le_refl _) hb4).chg hq.2.2.2.1 (fun b hb => by have := hF1.out b hb; simp; omega)).below (Nat.le_refl _) (bdrew1 (Below.refl _ _))), bdrew1 (hq.2.2.2.2 w.heap.size w (hB.trans (hb4.mono hzB)) (by omega))⟩
          case measure => simp [intOf]; omega
        · have hnx : Hid (lvA CF GL (a + 1) = (m, f)) := Lib.hid (by rw [hnx0, if_neg hlt0])
          clear hnx0
          go_wp2_with fail
          refine Calls.mono (HCF.out _ x HXM.out (by first | exact (by (try with_reducible refine bsz ?_); repeat (first | with_reducible exact Below.refl _ _ | ((with_reducible refine bpre ?_); (try simp only [Array.append_assoc]); repeat (first | with_reducible exact Pre.refl _ | with_reducible exact Pre.base _ _ | with_reducible refine Pre.cons _ ?_)) | with_reducible assumption | ((with_reducible refine bsetr ?_); rfl) | with_reducible refine Below.setCell ?_ (by simp <;> omega) _ | with_reducible refine bpl ?_ _ _ | with_reducible refine bal ?_ _ | with_reducible refine bdrew1 ?_ | with_reducible refine bdrew ?_ _)) | exact hB.trans ((bal (Below.refl _ _) _).mono hzB))) ?_
          rintro e0 w3 ⟨kk, rfl, hb⟩
          rw [hy.out]
          have HB3 := Lib.hid (show Below W0.heap.size W0 w3 from Below.trans (by (try with_reducible refine bsz ?_); repeat (first | with_reducible exact Below.refl _ _ | ((with_reducible refine bpre ?_); (try simp only [Array.append_assoc]); repeat (first | with_reducible exact Pre.refl _ | with_reducible exact Pre.base _ _ | with_reducible refine Pre.cons _ ?_)) | with_reducible assumption | ((with_reducible refine bsetr ?_); rfl) | with_reducible refine Below.setCell ?_ (by simp <;> omega) _ | with_reducible refine bpl ?_ _ _ | with_reducible refine bal ?_ _ | with_reducible refine bdrew1 ?_ | with_reducible refine bdrew ?_ _)) (hb.mono (by simp)))
          have kx3 : w3.heap[W0.heap.size]? = some (.cells #[.int .i64 x.1, .int .i64 x.2.1, .int .u32 x.2.2] 35 (0, 0)) := bblk hb (by simp) (by repeat (first | with_reducible assumption | with_reducible refine pls_block _ _ ?_ | with_reducible apply blkset2 | with_reducible apply blkset1 | ((with_reducible refine blksetN ?_ ?_ _); (focus (simp <;> omega))) | with_reducible exact blknew _ _ | ((with_reducible refine blknew' _ _ _ ?_); (simp <;> omega)) | with_reducible refine blkal ?_ _))
          have kq3 := bblk HB3.out yq KQ.out
          have kf3 := bblk HB3.out yf KF.out
          obtain ⟨q0, q1, qf0, qf1⟩ := blk2 kq3
          obtain ⟨g0, g1, g2, gf0, gf1, gf2⟩ := blk3 kf3
          obtain ⟨x0, x1, x2⟩ := blkc3 kx3
          have yq3 := blklt kq3
          have yf3 := blklt kf3
          have yx3 := blklt kx3
          have KX3 := Lib.hid kx3
          have hne3 : w3.heap.size ≠ q := by omega
          have hne4 : w3.heap.size ≠ q + 1 := by omega
          have hz3 := HB3.out.size
          clear hb kx3 kq3 kf3
          go_wp2_with fail
          refine Calls.mono (HCMP.out _) ?_
          rintro e0 w4 ⟨rfl, hb⟩
          have HB4 := Lib.hid (show Below W0.heap.size W0 w4 from Below.trans (by have hb3 := HB3.out; exact (by (try with_reducible refine bsz ?_); repeat (first | with_reducible exact Below.refl _ _ | ((with_reducible refine bpre ?_); (try simp only [Array.append_assoc]); repeat (first | with_reducible exact Pre.refl _ | with_reducible exact Pre.base _ _ | with_reducible refine Pre.cons _ ?_)) | with_reducible assumption | ((with_reducible refine bsetr ?_); rfl) | with_reducible refine Below.setCell ?_ (by simp <;> omega) _ | with_reducible refine bpl ?_ _ _ | with_reducible refine bal ?_ _ | with_reducible refine bdrew1 ?_ | with_reducible refine bdrew ?_ _))) (hb.mono (by simp; omega)))
          have kx4 : w4.heap[W0.heap.size]? = some (.cells #[.int .i64 x.1, .int .i64 x.2.1, .int .u32 x.2.2] 35 (0, 0)) := bblk hb (by simp; omega) (blkal KX3.out _)
          have ky4 : w4.heap[w3.heap.size]? = some (.cells #[.int .i64 y.1, .int .i64 y.2] 32 (0, 0)) := bblk hb (by simp) (by repeat (first | with_reducible assumption | with_reducible refine pls_block _ _ ?_ | with_reducible apply blkset2 | with_reducible apply blkset1 | ((with_reducible refine blksetN ?_ ?_ _); (focus (simp <;> omega))) | with_reducible exact blknew _ _ | ((with_reducible refine blknew' _ _ _ ?_); (simp <;> omega)) | with_reducible refine blkal ?_ _))
          clear x0 x1 x2 q0 q1 qf0 qf1 g0 g1 g2 gf0 gf1 gf2
          have kq4 := bblk HB4.out yq KQ.out
          have kf4 := bblk HB4.out yf KF.out
          obtain ⟨q0, q1, qf0, qf1⟩ := blk2 kq4
          obtain ⟨g0, g1, g2, gf0, gf1, gf2⟩ := blk3 kf4
          obtain ⟨x0, x1, x2⟩ := blkc3 kx4
          obtain ⟨z0, z1⟩ := blkc2 ky4
          have yq4 := blklt kq4
          have yf4 := blklt kf4
          have yx4 := blklt kx4
          have yy4 := blklt ky4
          have hz4 := HB4.out.size
          clear hb kx4 ky4 kq4 kf4
          go_wp2_with fail
          go_roundw
          case rel =>
            have hb4 := HB4.out
            exact ⟨a + 1, m, f, by omega, by go_num, hnx, Lib.hid (fun _ => HMI.out), bblk hb4 yq KQ.out, bblk hb4 yf KF.out, bblk hb4 y0' K0'.out, bblk hb4 (blklt K1'.out) K1'.out, bblk hb4 (blklt K2'.out) K2'.out, Lib.hid (hO.out.below (Nat.le_refl _) hb4), hB.trans (hb4.mono hzB)⟩
          case measure => simp [intOf]; omega
    · have ee : a = N := by omega
      subst ee
      have hfin : Hid (lvR tnN te sN T gs = (m, f)) := Lib.hid (by rw [hr.out, hA.out])
      obtain ⟨q0, q1⟩ := blkc2 kq
      obtain ⟨g0, g1, g2⟩ := blkc3 kf
      obtain ⟨u0, u1, u2, u3⟩ := blk2 k1
      obtain ⟨u4, u5, u6, u7, u8, u9⟩ := blk3 k2
      have y1' := blklt k1
      have y2' := blklt k2
      have hn1 : q ≠ w.heap.size + 1 := by omega
      have hn2 : q ≠ w.heap.size + 1 + 1 := by omega
      have hn3 : q + 1 ≠ w.heap.size + 1 := by omega
      have hn4 : q + 1 ≠ w.heap.size + 1 + 1 := by omega
      clear kq kf k0 k1 k2
      go_wp2_with fail
      (refine wp_region_held_drew (S := (fun w' => w'.cell? ⟨q, 0, none⟩ = some (.int .i64 m.1) ∧ w'.cell? ⟨q, 1, none⟩ = some (.int .i64 m.2) ∧ w'.cell? ⟨q + 1, 0, none⟩ = some (.int .i64 f.1) ∧ w'.cell? ⟨q + 1, 1, none⟩ = some (.int .i64 f.2.1) ∧ w'.cell? ⟨q + 1, 2, none⟩ = some (.int .u32 f.2.2))) (by kernel_rfl) ?_ (fun hHeld => ?_); (focus (first | exact hS | (simp [*, go_sem]; done) | fail)); refine rg_take 0 (some 70) (v := ?_) rfl (by kernel_rfl) (by kernel_rfl) (by kernel_rfl) (by kernel_rfl) (fun _ _ _ h => h) (Or.inl ⟨by kernel_rfl, ?_⟩) (by assumption) ?_; rotate_left; (focus (intro w' hSw; (try dsimp only at hSw); go_simp; (try with_reducible rfl))); (try simp only [Act.put, List.setIfInBounds_toArray, List.set_cons_zero, List.set_cons_succ]); refine rg_take 1 (some 71) (v := ?_) rfl (by kernel_rfl) (by kernel_rfl) (by kernel_rfl) (by kernel_rfl) (fun _ _ _ h => h) (Or.inl ⟨by kernel_rfl, ?_⟩) (by assumption) ?_; rotate_left; (focus (intro w' hSw; (try dsimp only at hSw); go_simp; (try with_reducible rfl))); (try simp only [Act.put, List.setIfInBounds_toArray, List.set_cons_zero, List.set_cons_succ]); refine wpAnyH_ready (rs := [2]) (by kernel_rfl) (by simp) ?_; refine AllReadyH.cons rfl (fun K hK => ?_) AllReadyH.nil; (try go_simp); refine hK.out _ _ ?_ (fun hHeld => ?_); (focus (first | exact hS | (simp [*, go_sem]; done) | fail)); clear hK K; (try simp only [Act.put, List.setIfInBounds_toArray, List.set_cons_zero, List.set_cons_succ]); refine wpAnyH_ready (rs := [3]) (by kernel_rfl) (by simp) ?_; refine AllReadyH.cons rfl (fun K hK => ?_) AllReadyH.nil; (try go_simp); refine hK.out _ _ ?_ (fun hHeld => ?_); (focus (first | exact hS | (simp [*, go_sem]; done) | fail)); clear hK K; (try simp only [Act.put, List.setIfInBounds_toArray, List.set_cons_zero, List.set_cons_succ]); refine rg_take 4 (some 6) (v := ?_) rfl (by kernel_rfl) (by kernel_rfl) (by kernel_rfl) (by kernel_rfl) (fun _ _ _ h => h) (Or.inl ⟨by kernel_rfl, ?_⟩) (by assumption) ?_; rotate_left; (focus (intro w' hSw; (try dsimp only at hSw); go_simp; (try with_reducible rfl))); (try simp only [Act.put, List.setIfInBounds_toArray, List.set_cons_zero, List.set_cons_succ]); refine wpAnyH_done (by kernel_rfl) ?_ _)
      clear hHeld
      go_wp2_with fail
      exact bodyPost_ret (v := .tuple #[.agg #[.int .i64 m.1, .int .i64 m.2], .agg #[.int .i64 f.1, .int .i64 f.2.1, .int .u32 f.2.2], .int .i64 0]) (by simp [results, Tryz.results10, go_sem, *]) rfl ⟨by rw [hfin.out, hc.out], (by (try with_reducible refine bsz ?_); repeat (first | with_reducible exact Below.refl _ _ | ((with_reducible refine bpre ?_); (try simp only [Array.append_assoc]); repeat (first | with_reducible exact Pre.refl _ | with_reducible exact Pre.base _ _ | with_reducible refine Pre.cons _ ?_)) | with_reducible assumption | ((with_reducible refine bsetr ?_); rfl) | with_reducible refine Below.setCell ?_ (by simp <;> omega) _ | with_reducible refine bpl ?_ _ _ | with_reducible refine bal ?_ _ | with_reducible refine bdrew1 ?_ | with_reducible refine bdrew ?_ _))⟩
end Go.Proofs.YtkfjlimlodbcgaaGreat

/- spec.LeastValue. -/
import Derived.Test.YtkfjlimlodbcgaaGreatYa
import Derived.Test.YtkfjlimlodbcgaaGreatSb
import Derived.Test.YtkfjlimlodbcgaaGreatVt
import Derived.Test.YtkfjlimlodbcgaaGreatSli
import Derived.Test.YtkfjlimlodbcgaaGreatSl
import Derived.Deep.CutRange
namespace Go.Proofs.YtkfjlimlodbcgaaGreat
open Go.ChangeShapes Go.WideShapes Go.RowKit
set_option linter.unusedVariables false
set_option linter.unusedSimpArgs false
attribute [local irreducible] Calls
theorem own_blY {B : Nat} {w : World} {xs : List Flg} {bl off n cap : Nat} {F : List Nat} (h : Own shFlag B w xs (.slice (some ⟨bl, off, none⟩) n cap) F) (hp : 0 < xs.length) : bl ∈ F := by
  obtain ⟨⟨A, c, hv, _, _, h4⟩, _, _⟩ := h
  rcases h4 with ⟨rfl, _⟩ | ⟨g, cur, t, Fs, e, _, _, hF, _⟩
  · exact absurd hp (Nat.lt_irrefl 0)
  · subst e
    have : bl = g := by simp at hv; exact hv.1.1
    rw [hF, this]
    simp
set_option maxHeartbeats 4000000 in
theorem sLeastValue_any (w : World) (tn te s : Int) (T : List Trm) (gs : List (Int × Int)) (v gv : Value) (hT : Lst shTerm w T v) (hG : Lst shGr w gs gv) (he : 0 ≤ te ∧ te ≤ 4294967295) :
    Calls Tryz.prog 7 #[.agg #[.int .i64 tn, .int .u32 te, .int .i64 s, v], gv] w fun r w' => r = .returned (.tuple #[.agg #[.int .i64 (lvR tn te s T gs).1.1, .int .i64 (lvR tn te s T gs).1.2], .agg #[.int .i64 (lvR tn te s T gs).2.1, .int .i64 (lvR tn te s T gs).2.2.1, .int .u32 (lvR tn te s T gs).2.2.2], .int .i64 (lvC tn te s T gs)]) ∧ Below w.heap.size w w' := by
  have HT := Lib.hid hT
  have HG := Lib.hid hG
  have HE := Lib.hid he
  obtain ⟨A, cap, rfl, hcc, hm, hok, _⟩ := lstTerm hT
  obtain ⟨Ag, capg, rfl, _, _⟩ := formGraph hG
  clear hT hG hok
  cases hs : sumOk tn te s T
  · have hc0 : lvC tn te s T gs = 1 := by unfold lvC lvP; rw [hs]; rfl
    have hr := Lib.hid (lvR_no hc0 (by decide))
    have hc := Lib.hid hc0
    have HS := Lib.hid hs
    clear hc0 he hs
    go_enter Tryz.func7, Tryz.ntmps7
    go_wp2_with (first | (go_at_call 20; refine Calls.mono (l05Ok_any _ _ tn te s T _ (by repeat (first | with_reducible assumption | with_reducible refine pls_block _ _ ?_ | with_reducible apply blkset2 | with_reducible apply blkset1 | ((with_reducible refine blksetN ?_ ?_ _); (focus (simp <;> omega))) | with_reducible exact blknew _ _ | ((with_reducible refine blknew' _ _ _ ?_); (simp <;> omega)) | with_reducible refine blkal ?_ _)) (HT.out.below (by (try with_reducible refine bsz ?_); repeat (first | with_reducible exact Below.refl _ _ | ((with_reducible refine bpre ?_); (try simp only [Array.append_assoc]); repeat (first | with_reducible exact Pre.refl _ | with_reducible exact Pre.base _ _ | with_reducible refine Pre.cons _ ?_)) | with_reducible assumption | ((with_reducible refine bsetr ?_); rfl) | with_reducible refine Below.setCell ?_ (by simp <;> omega) _ | with_reducible refine bpl ?_ _ _ | with_reducible refine bal ?_ _ | with_reducible refine bdrew1 ?_ | with_reducible refine bdrew ?_ _))) HE.out) ?_; rw [HS.out]; rintro e w1 ⟨rfl, hb⟩; obtain ⟨X, m, rfl⟩ := plsOf hb; clear hb))
    exact bodyPost_ret (v := .tuple #[.agg #[.int .i64 0, .int .i64 0], .agg #[.int .i64 0, .int .i64 0, .int .u32 0], .int .i64 1]) (by simp [results, Tryz.results7, go_sem]) rfl ⟨by rw [hr.out, hc.out], (by (try with_reducible refine bsz ?_); repeat (first | with_reducible exact Below.refl _ _ | ((with_reducible refine bpre ?_); (try simp only [Array.append_assoc]); repeat (first | with_reducible exact Pre.refl _ | with_reducible exact Pre.base _ _ | with_reducible refine Pre.cons _ ?_)) | with_reducible assumption | ((with_reducible refine bsetr ?_); rfl) | with_reducible refine Below.setCell ?_ (by simp <;> omega) _ | with_reducible refine bpl ?_ _ _ | with_reducible refine bal ?_ _ | with_reducible refine bdrew1 ?_ | with_reducible refine bdrew ?_ _))⟩
  have HS := Lib.hid hs
  by_cases hfo : forbC gs = 0
  rotate_left
  · obtain ⟨c, hcd⟩ : ∃ c, forbC gs = c := ⟨_, rfl⟩
    have hc0 : lvC tn te s T gs = c := by unfold lvC lvP; rw [hs]; show (if forbC gs = 0 then _ else _) = _; rw [if_neg hfo]; exact hcd
    rw [hcd] at hfo
    have hr := Lib.hid (lvR_no hc0 hfo)
    have hc := Lib.hid hc0
    have HF := Lib.hid hcd
    have hcb : (c != 0) = true := by simpa using hfo
    clear hc0 hcd he hs hfo
    go_enter Tryz.func7, Tryz.ntmps7
    go_wp2_with (first | (go_at_call 20; refine Calls.mono (l05Ok_any _ _ tn te s T _ (by repeat (first | with_reducible assumption | with_reducible refine pls_block _ _ ?_ | with_reducible apply blkset2 | with_reducible apply blkset1 | ((with_reducible refine blksetN ?_ ?_ _); (focus (simp <;> omega))) | with_reducible exact blknew _ _ | ((with_reducible refine blknew' _ _ _ ?_); (simp <;> omega)) | with_reducible refine blkal ?_ _)) (HT.out.below (by (try with_reducible refine bsz ?_); repeat (first | with_reducible exact Below.refl _ _ | ((with_reducible refine bpre ?_); (try simp only [Array.append_assoc]); repeat (first | with_reducible exact Pre.refl _ | with_reducible exact Pre.base _ _ | with_reducible refine Pre.cons _ ?_)) | with_reducible assumption | ((with_reducible refine bsetr ?_); rfl) | with_reducible refine Below.setCell ?_ (by simp <;> omega) _ | with_reducible refine bpl ?_ _ _ | with_reducible refine bal ?_ _ | with_reducible refine bdrew1 ?_ | with_reducible refine bdrew ?_ _))) HE.out) ?_; rw [HS.out]; rintro e w1 ⟨rfl, hb⟩; obtain ⟨X, m, rfl⟩ := plsOf hb; clear hb) | (go_at_call 21; refine Calls.mono (l01Forbidden_any _ gs _ (HG.out.below (by (try with_reducible refine bsz ?_); repeat (first | with_reducible exact Below.refl _ _ | ((with_reducible refine bpre ?_); (try simp only [Array.append_assoc]); repeat (first | with_reducible exact Pre.refl _ | with_reducible exact Pre.base _ _ | with_reducible refine Pre.cons _ ?_)) | with_reducible assumption | ((with_reducible refine bsetr ?_); rfl) | with_reducible refine Below.setCell ?_ (by simp <;> omega) _ | with_reducible refine bpl ?_ _ _ | with_reducible refine bal ?_ _ | with_reducible refine bdrew1 ?_ | with_reducible refine bdrew ?_ _)))) ?_; rw [HF.out]; rintro e w1 ⟨rfl, hb⟩; obtain ⟨X, m, rfl⟩ := plsOf hb; clear hb))
    exact bodyPost_ret (v := .tuple #[.agg #[.int .i64 0, .int .i64 0], .agg #[.int .i64 0, .int .i64 0, .int .u32 0], .int .i64 c]) (by simp [results, Tryz.results7, go_sem]) rfl ⟨by rw [hr.out, hc.out], (by (try with_reducible refine bsz ?_); repeat (first | with_reducible exact Below.refl _ _ | ((with_reducible refine bpre ?_); (try simp only [Array.append_assoc]); repeat (first | with_reducible exact Pre.refl _ | with_reducible exact Pre.base _ _ | with_reducible refine Pre.cons _ ?_)) | with_reducible assumption | ((with_reducible refine bsetr ?_); rfl) | with_reducible refine Below.setCell ?_ (by simp <;> omega) _ | with_reducible refine bpl ?_ _ _ | with_reducible refine bal ?_ _ | with_reducible refine bdrew1 ?_ | with_reducible refine bdrew ?_ _))⟩
  have HF := Lib.hid hfo
  obtain ⟨tnN, rfl⟩ : ∃ n : Nat, tn = (n : Int) := by
    have h := (sumOk_iff.1 hs).1
    unfold grOk at h
    rw [Bool.and_eq_true] at h
    exact Int.eq_ofNat_of_zero_le (inB_iff.1 h.1).1
  have hsp := (sumOk_iff.1 hs).2.1
  have hsp3 : tnN ≤ 3 ∧ (tnN : Int) ≤ s ∧ s ≤ 5 := by
    simp only [spOk, Bool.and_eq_true, decide_eq_true_eq] at hsp
    have := inB_iff.1 hsp.2
    omega
  obtain ⟨sN, rfl⟩ := Int.eq_ofNat_of_zero_le (show 0 ≤ s by omega)
  have hts : tnN ≤ sN := by omega
  have hs5 : sN ≤ 5 := by omega
  have ht3 : tnN ≤ 3 := by omega
  obtain ⟨hgl, hg5⟩ := forbC_ok hfo
  have hP : lvP tnN te sN T gs = 0 := by unfold lvP; rw [hs]; exact hfo
  obtain ⟨GL, hGL, N, hN, hLn, hNl⟩ : ∃ GL : List Flg, Hid (flagsF tnN te sN gs = GL) ∧ ∃ N : Nat, Hid (GL.length = N) ∧ Hid ((flagsL tnN te sN gs).length = N) ∧ N ≤ 1024 :=
    ⟨_, Lib.hid rfl, _, Lib.hid rfl, Lib.hid (List.length_map _).symm, by rw [show (flagsF tnN te sN gs).length = (flagsL tnN te sN gs).length from List.length_map _]; exact flagsL_len tnN te sN hs5 gs⟩
  have hC : lvC tnN te sN T gs = if N ≤ 64 then (if N = 0 then 6 else 0) else 3 := by
    unfold lvC
    rw [if_pos hP, show (tnN : Int).toNat = tnN from rfl, show (sN : Int).toNat = sN from rfl, hLn.out]
  obtain ⟨CF, hCF⟩ : ∃ CF, Hid (coefR tnN te sN T = CF) := ⟨_, Lib.hid rfl⟩
  have hmem : Hid (∀ f ∈ GL, okFlag f ∧ inF (CF f)) := Lib.hid fun f hf => by
    rw [← hGL.out] at hf
    obtain ⟨m1, m2, m3, m4⟩ := flagsF_mem ht3 hts hs5 hf
    rw [← hCF.out]
    exact ⟨m4, coefR_in hs m3 (lv_fits ht3 hts hs5 hf)⟩
  have HCF : Hid (∀ W f, f ∈ GL → Below w.heap.size w W → Calls Tryz.prog 24 #[.agg #[.int .i64 tnN, .int .u32 te, .int .i64 sN, .slice A T.length cap], .agg #[.int .i64 f.1, .int .i64 f.2.1, .int .u32 f.2.2]] W fun e w' => ∃ k : Int, e = .returned (.tuple #[.agg #[.int .i64 (CF f).1, .int .i64 (CF f).2], .int .i64 k]) ∧ Below W.heap.size W w') := Lib.hid fun W f hf hW => by
    have := sCoefficientOf_any W tnN te sN T f _ (HT.out.below hW) HE.out (hmem.out f hf).1
    rw [hCF.out] at this
    exact this.mono fun e w' h => ⟨_, h⟩
  have hafc : afC tnN te sN gs = if N ≤ 64 then 0 else 3 := by
    unfold afC
    rw [if_pos (sumOk_iff.1 hs).1, if_pos hfo, if_pos hsp, show (tnN : Int).toNat = tnN from rfl, show (sN : Int).toNat = sN from rfl, hLn.out]
  have HAF : Hid (∀ L c, afC tnN te sN gs = c → afL tnN te sN gs = L → ∀ W u, Lst shGr W gs u → Calls Tryz.prog 22 #[.agg #[.int .i64 tnN, .int .u32 te], .int .i64 sN, u] W (FlsCode W.heap.size W L c)) := Lib.hid fun L c h1 h2 W u hu => by
    have := sAllFlags_any W tnN te sN gs u hu HE.out
    rw [h1, h2] at this
    exact this
  by_cases h64 : N ≤ 64
  rotate_left
  · have hc0 : lvC tnN te sN T gs = 3 := by rw [hC, if_neg h64]
    have hr := Lib.hid (lvR_no hc0 (by decide))
    have hc := Lib.hid hc0
    have HA := Lib.hid (HAF.out [] 3 (by rw [hafc, if_neg h64]) (by unfold afL; rw [hafc, if_neg h64]; rfl))
    clear hs hfo hsp hsp3 hP he hgl hg5 hC hc0 hafc HAF
    go_enter Tryz.func7, Tryz.ntmps7
    go_wp2_with (first | (go_at_call 20; refine Calls.mono (l05Ok_any _ _ tnN te sN T _ (by repeat (first | with_reducible assumption | with_reducible refine pls_block _ _ ?_ | with_reducible apply blkset2 | with_reducible apply blkset1 | ((with_reducible refine blksetN ?_ ?_ _); (focus (simp <;> omega))) | with_reducible exact blknew _ _ | ((with_reducible refine blknew' _ _ _ ?_); (simp <;> omega)) | with_reducible refine blkal ?_ _)) (HT.out.below (by (try with_reducible refine bsz ?_); repeat (first | with_reducible exact Below.refl _ _ | ((with_reducible refine bpre ?_); (try simp only [Array.append_assoc]); repeat (first | with_reducible exact Pre.refl _ | with_reducible exact Pre.base _ _ | with_reducible refine Pre.cons _ ?_)) | with_reducible assumption | ((with_reducible refine bsetr ?_); rfl) | with_reducible refine Below.setCell ?_ (by simp <;> omega) _ | with_reducible refine bpl ?_ _ _ | with_reducible refine bal ?_ _ | with_reducible refine bdrew1 ?_ | with_reducible refine bdrew ?_ _))) HE.out) ?_; rw [HS.out]; rintro e w1 ⟨rfl, hb⟩; obtain ⟨X, m, rfl⟩ := plsOf hb; clear hb) | (go_at_call 21; refine Calls.mono (l01Forbidden_any _ gs _ (HG.out.below (by (try with_reducible refine bsz ?_); repeat (first | with_reducible exact Below.refl _ _ | ((with_reducible refine bpre ?_); (try simp only [Array.append_assoc]); repeat (first | with_reducible exact Pre.refl _ | with_reducible exact Pre.base _ _ | with_reducible refine Pre.cons _ ?_)) | with_reducible assumption | ((with_reducible refine bsetr ?_); rfl) | with_reducible refine Below.setCell ?_ (by simp <;> omega) _ | with_reducible refine bpl ?_ _ _ | with_reducible refine bal ?_ _ | with_reducible refine bdrew1 ?_ | with_reducible refine bdrew ?_ _)))) ?_; rw [HF.out]; rintro e w1 ⟨rfl, hb⟩; obtain ⟨X, m, rfl⟩ := plsOf hb; clear hb))
    refine Calls.mono (HA.out _ _ (HG.out.below (by (try with_reducible refine bsz ?_); repeat (first | with_reducible exact Below.refl _ _ | ((with_reducible refine bpre ?_); (try simp only [Array.append_assoc]); repeat (first | with_reducible exact Pre.refl _ | with_reducible exact Pre.base _ _ | with_reducible refine Pre.cons _ ?_)) | with_reducible assumption | ((with_reducible refine bsetr ?_); rfl) | with_reducible refine Below.setCell ?_ (by simp <;> omega) _ | with_reducible refine bpl ?_ _ _ | with_reducible refine bal ?_ _ | with_reducible refine bdrew1 ?_ | with_reducible refine bdrew ?_ _)))) ?_
    rintro e0 w1 ⟨A1, cap1, F1, rfl, hO1, hb⟩
    have k1 : w1.heap[w.heap.size + 1]? = some (.cells #[.int .i64 0, .int .i64 0] 32 (0, 0)) := bblk hb (by simp <;> omega) (by repeat (first | with_reducible assumption | with_reducible refine pls_block _ _ ?_ | with_reducible apply blkset2 | with_reducible apply blkset1 | ((with_reducible refine blksetN ?_ ?_ _); (focus (simp <;> omega))) | with_reducible exact blknew _ _ | ((with_reducible refine blknew' _ _ _ ?_); (simp <;> omega)) | with_reducible refine blkal ?_ _))
    have k2 : w1.heap[w.heap.size + 1 + 1]? = some (.cells #[.int .i64 0, .int .i64 0, .int .u32 0] 35 (0, 0)) := bblk hb (by simp <;> omega) (by repeat (first | with_reducible assumption | with_reducible refine pls_block _ _ ?_ | with_reducible apply blkset2 | with_reducible apply blkset1 | ((with_reducible refine blksetN ?_ ?_ _); (focus (simp <;> omega))) | with_reducible exact blknew _ _ | ((with_reducible refine blknew' _ _ _ ?_); (simp <;> omega)) | with_reducible refine blkal ?_ _))
    obtain ⟨r0, r1, r2, r3⟩ := blk2 k1
    obtain ⟨r4, r5, r6, r7, r8, r9⟩ := blk3 k2
    have y1 := blklt k1
    have y2 := blklt k2
    have hb1 : Below w.heap.size w w1 := Below.trans (by (try with_reducible refine bsz ?_); repeat (first | with_reducible exact Below.refl _ _ | ((with_reducible refine bpre ?_); (try simp only [Array.append_assoc]); repeat (first | with_reducible exact Pre.refl _ | with_reducible exact Pre.base _ _ | with_reducible refine Pre.cons _ ?_)) | with_reducible assumption | ((with_reducible refine bsetr ?_); rfl) | with_reducible refine Below.setCell ?_ (by simp <;> omega) _ | with_reducible refine bpl ?_ _ _ | with_reducible refine bal ?_ _ | with_reducible refine bdrew1 ?_ | with_reducible refine bdrew ?_ _)) (hb.mono (by simp <;> omega))
    clear hb hO1 k1 k2
    go_wp2_with fail
    exact bodyPost_ret (v := .tuple #[.agg #[.int .i64 0, .int .i64 0], .agg #[.int .i64 0, .int .i64 0, .int .u32 0], .int .i64 3]) (by simp [results, Tryz.results7, go_sem, *]) rfl ⟨by rw [hr.out, hc.out], (by (try with_reducible refine bsz ?_); repeat (first | with_reducible exact Below.refl _ _ | ((with_reducible refine bpre ?_); (try simp only [Array.append_assoc]); repeat (first | with_reducible exact Pre.refl _ | with_reducible exact Pre.base _ _ | with_reducible refine Pre.cons _ ?_)) | with_reducible assumption | ((with_reducible refine bsetr ?_); rfl) | with_reducible refine Below.setCell ?_ (by simp <;> omega) _ | with_reducible refine bpl ?_ _ _ | with_reducible refine bal ?_ _ | with_reducible refine bdrew1 ?_ | with_reducible refine bdrew ?_ _))⟩
  have HA := Lib.hid (HAF.out GL 0 (by rw [hafc, if_pos h64]) (by unfold afL; rw [hafc, if_pos h64]; exact (if_pos rfl).trans hGL.out))
  by_cases hn0 : N = 0
  · have hc0 : lvC tnN te sN T gs = 6 := by rw [hC, if_pos h64, if_pos hn0]
    have hr := Lib.hid (lvR_no hc0 (by decide))
    have hc := Lib.hid hc0
    subst hn0
    clear hs hfo hsp hsp3 hP he hgl hg5 hC hc0 hafc HAF
    go_enter Tryz.func7, Tryz.ntmps7
    go_wp2_with (first | (go_at_call 20; refine Calls.mono (l05Ok_any _ _ tnN te sN T _ (by repeat (first | with_reducible assumption | with_reducible refine pls_block _ _ ?_ | with_reducible apply blkset2 | with_reducible apply blkset1 | ((with_reducible refine blksetN ?_ ?_ _); (focus (simp <;> omega))) | with_reducible exact blknew _ _ | ((with_reducible refine blknew' _ _ _ ?_); (simp <;> omega)) | with_reducible refine blkal ?_ _)) (HT.out.below (by (try with_reducible refine bsz ?_); repeat (first | with_reducible exact Below.refl _ _ | ((with_reducible refine bpre ?_); (try simp only [Array.append_assoc]); repeat (first | with_reducible exact Pre.refl _ | with_reducible exact Pre.base _ _ | with_reducible refine Pre.cons _ ?_)) | with_reducible assumption | ((with_reducible refine bsetr ?_); rfl) | with_reducible refine Below.setCell ?_ (by simp <;> omega) _ | with_reducible refine bpl ?_ _ _ | with_reducible refine bal ?_ _ | with_reducible refine bdrew1 ?_ | with_reducible refine bdrew ?_ _))) HE.out) ?_; rw [HS.out]; rintro e w1 ⟨rfl, hb⟩; obtain ⟨X, m, rfl⟩ := plsOf hb; clear hb) | (go_at_call 21; refine Calls.mono (l01Forbidden_any _ gs _ (HG.out.below (by (try with_reducible refine bsz ?_); repeat (first | with_reducible exact Below.refl _ _ | ((with_reducible refine bpre ?_); (try simp only [Array.append_assoc]); repeat (first | with_reducible exact Pre.refl _ | with_reducible exact Pre.base _ _ | with_reducible refine Pre.cons _ ?_)) | with_reducible assumption | ((with_reducible refine bsetr ?_); rfl) | with_reducible refine Below.setCell ?_ (by simp <;> omega) _ | with_reducible refine bpl ?_ _ _ | with_reducible refine bal ?_ _ | with_reducible refine bdrew1 ?_ | with_reducible refine bdrew ?_ _)))) ?_; rw [HF.out]; rintro e w1 ⟨rfl, hb⟩; obtain ⟨X, m, rfl⟩ := plsOf hb; clear hb))
    refine Calls.mono (HA.out _ _ (HG.out.below (by (try with_reducible refine bsz ?_); repeat (first | with_reducible exact Below.refl _ _ | ((with_reducible refine bpre ?_); (try simp only [Array.append_assoc]); repeat (first | with_reducible exact Pre.refl _ | with_reducible exact Pre.base _ _ | with_reducible refine Pre.cons _ ?_)) | with_reducible assumption | ((with_reducible refine bsetr ?_); rfl) | with_reducible refine Below.setCell ?_ (by simp <;> omega) _ | with_reducible refine bpl ?_ _ _ | with_reducible refine bal ?_ _ | with_reducible refine bdrew1 ?_ | with_reducible refine bdrew ?_ _)))) ?_
    rintro e0 w1 ⟨A1, cap1, F1, rfl, hO1, hb⟩
    rw [show List.length (α := shFlag.T) GL = 0 from hN.out]
    have k1 : w1.heap[w.heap.size + 1]? = some (.cells #[.int .i64 0, .int .i64 0] 32 (0, 0)) := bblk hb (by simp <;> omega) (by repeat (first | with_reducible assumption | with_reducible refine pls_block _ _ ?_ | with_reducible apply blkset2 | with_reducible apply blkset1 | ((with_reducible refine blksetN ?_ ?_ _); (focus (simp <;> omega))) | with_reducible exact blknew _ _ | ((with_reducible refine blknew' _ _ _ ?_); (simp <;> omega)) | with_reducible refine blkal ?_ _))
    have k2 : w1.heap[w.heap.size + 1 + 1]? = some (.cells #[.int .i64 0, .int .i64 0, .int .u32 0] 35 (0, 0)) := bblk hb (by simp <;> omega) (by repeat (first | with_reducible assumption | with_reducible refine pls_block _ _ ?_ | with_reducible apply blkset2 | with_reducible apply blkset1 | ((with_reducible refine blksetN ?_ ?_ _); (focus (simp <;> omega))) | with_reducible exact blknew _ _ | ((with_reducible refine blknew' _ _ _ ?_); (simp <;> omega)) | with_reducible refine blkal ?_ _))
    obtain ⟨r0, r1, r2, r3⟩ := blk2 k1
    obtain ⟨r4, r5, r6, r7, r8, r9⟩ := blk3 k2
    have y1 := blklt k1
    have y2 := blklt k2
    have hb1 : Below w.heap.size w w1 := Below.trans (by (try with_reducible refine bsz ?_); repeat (first | with_reducible exact Below.refl _ _ | ((with_reducible refine bpre ?_); (try simp only [Array.append_assoc]); repeat (first | with_reducible exact Pre.refl _ | with_reducible exact Pre.base _ _ | with_reducible refine Pre.cons _ ?_)) | with_reducible assumption | ((with_reducible refine bsetr ?_); rfl) | with_reducible refine Below.setCell ?_ (by simp <;> omega) _ | with_reducible refine bpl ?_ _ _ | with_reducible refine bal ?_ _ | with_reducible refine bdrew1 ?_ | with_reducible refine bdrew ?_ _)) (hb.mono (by simp <;> omega))
    clear hb hO1 k1 k2
    go_wp2_with fail
    exact bodyPost_ret (v := .tuple #[.agg #[.int .i64 0, .int .i64 0], .agg #[.int .i64 0, .int .i64 0, .int .u32 0], .int .i64 6]) (by simp [results, Tryz.results7, go_sem, *]) rfl ⟨by rw [hr.out, hc.out], (by (try with_reducible refine bsz ?_); repeat (first | with_reducible exact Below.refl _ _ | ((with_reducible refine bpre ?_); (try simp only [Array.append_assoc]); repeat (first | with_reducible exact Pre.refl _ | with_reducible exact Pre.base _ _ | with_reducible refine Pre.cons _ ?_)) | with_reducible assumption | ((with_reducible refine bsetr ?_); rfl) | with_reducible refine Below.setCell ?_ (by simp <;> omega) _ | with_reducible refine bpl ?_ _ _ | with_reducible refine bal ?_ _ | with_reducible refine bdrew1 ?_ | with_reducible refine bdrew ?_ _))⟩
  have hc0 : lvC tnN te sN T gs = 0 := by rw [hC, if_pos h64, if_neg hn0]
  have hc := Lib.hid hc0
  have hr : Hid (lvR tnN te sN T gs = lvA CF GL N) := Lib.hid (by
    unfold lvR
    rw [if_pos hc0, show (tnN : Int).toNat = tnN from rfl, show (sN : Int).toNat = sN from rfl, hCF.out, hGL.out, hLn.out])
  have hnb : ((N : Int) == 0) = false := by rw [beq_eq_false_iff_ne]; omega
  clear hs hfo hsp hsp3 hP he hgl hg5 hC hc0 hafc HAF
  go_enter Tryz.func7, Tryz.ntmps7
  go_wp2_with (first | (go_at_call 20; refine Calls.mono (l05Ok_any _ _ tnN te sN T _ (by repeat (first | with_reducible assumption | with_reducible refine pls_block _ _ ?_ | with_reducible apply blkset2 | with_reducible apply blkset1 | ((with_reducible refine blksetN ?_ ?_ _); (focus (simp <;> omega))) | with_reducible exact blknew _ _ | ((with_reducible refine blknew' _ _ _ ?_); (simp <;> omega)) | with_reducible refine blkal ?_ _)) (HT.out.below (by (try with_reducible refine bsz ?_); repeat (first | with_reducible exact Below.refl _ _ | ((with_reducible refine bpre ?_); (try simp only [Array.append_assoc]); repeat (first | with_reducible exact Pre.refl _ | with_reducible exact Pre.base _ _ | with_reducible refine Pre.cons _ ?_)) | with_reducible assumption | ((with_reducible refine bsetr ?_); rfl) | with_reducible refine Below.setCell ?_ (by simp <;> omega) _ | with_reducible refine bpl ?_ _ _ | with_reducible refine bal ?_ _ | with_reducible refine bdrew1 ?_ | with_reducible refine bdrew ?_ _))) HE.out) ?_; rw [HS.out]; rintro e w1 ⟨rfl, hb⟩; obtain ⟨X, m, rfl⟩ := plsOf hb; clear hb) | (go_at_call 21; refine Calls.mono (l01Forbidden_any _ gs _ (HG.out.below (by (try with_reducible refine bsz ?_); repeat (first | with_reducible exact Below.refl _ _ | ((with_reducible refine bpre ?_); (try simp only [Array.append_assoc]); repeat (first | with_reducible exact Pre.refl _ | with_reducible exact Pre.base _ _ | with_reducible refine Pre.cons _ ?_)) | with_reducible assumption | ((with_reducible refine bsetr ?_); rfl) | with_reducible refine Below.setCell ?_ (by simp <;> omega) _ | with_reducible refine bpl ?_ _ _ | with_reducible refine bal ?_ _ | with_reducible refine bdrew1 ?_ | with_reducible refine bdrew ?_ _)))) ?_; rw [HF.out]; rintro e w1 ⟨rfl, hb⟩; obtain ⟨X, m, rfl⟩ := plsOf hb; clear hb))
  refine Calls.mono (HA.out _ _ (HG.out.below (by (try with_reducible refine bsz ?_); repeat (first | with_reducible exact Below.refl _ _ | ((with_reducible refine bpre ?_); (try simp only [Array.append_assoc]); repeat (first | with_reducible exact Pre.refl _ | with_reducible exact Pre.base _ _ | with_reducible refine Pre.cons _ ?_)) | with_reducible assumption | ((with_reducible refine bsetr ?_); rfl) | with_reducible refine Below.setCell ?_ (by simp <;> omega) _ | with_reducible refine bpl ?_ _ _ | with_reducible refine bal ?_ _ | with_reducible refine bdrew1 ?_ | with_reducible refine bdrew ?_ _)))) ?_
  rintro e0 w1 ⟨A1, cap1, F1, rfl, hO1, hb⟩
  rw [show List.length (α := shFlag.T) GL = N from hN.out] at hO1 ⊢
  have HB1 := Lib.hid (show Below w.heap.size w w1 from Below.trans (by (try with_reducible refine bsz ?_); repeat (first | with_reducible exact Below.refl _ _ | ((with_reducible refine bpre ?_); (try simp only [Array.append_assoc]); repeat (first | with_reducible exact Pre.refl _ | with_reducible exact Pre.base _ _ | with_reducible refine Pre.cons _ ?_)) | with_reducible assumption | ((with_reducible refine bsetr ?_); rfl) | with_reducible refine Below.setCell ?_ (by simp <;> omega) _ | with_reducible refine bpl ?_ _ _ | with_reducible refine bal ?_ _ | with_reducible refine bdrew1 ?_ | with_reducible refine bdrew ?_ _)) (hb.mono (by simp <;> omega)))
  have K0 : Hid (w1.heap[w.heap.size]? = some (.cells #[.int .i64 tnN, .int .u32 te, .int .i64 sN, .slice A T.length cap] 40 (0, 0))) := Lib.hid (bblk hb (by simp <;> omega) (by repeat (first | with_reducible assumption | with_reducible refine pls_block _ _ ?_ | with_reducible apply blkset2 | with_reducible apply blkset1 | ((with_reducible refine blksetN ?_ ?_ _); (focus (simp <;> omega))) | with_reducible exact blknew _ _ | ((with_reducible refine blknew' _ _ _ ?_); (simp <;> omega)) | with_reducible refine blkal ?_ _)))
  have K1 : Hid (w1.heap[w.heap.size + 1]? = some (.cells #[.int .i64 0, .int .i64 0] 32 (0, 0))) := Lib.hid (bblk hb (by simp <;> omega) (by repeat (first | with_reducible assumption | with_reducible refine pls_block _ _ ?_ | with_reducible apply blkset2 | with_reducible apply blkset1 | ((with_reducible refine blksetN ?_ ?_ _); (focus (simp <;> omega))) | with_reducible exact blknew _ _ | ((with_reducible refine blknew' _ _ _ ?_); (simp <;> omega)) | with_reducible refine blkal ?_ _)))
  have K2 : Hid (w1.heap[w.heap.size + 1 + 1]? = some (.cells #[.int .i64 0, .int .i64 0, .int .u32 0] 35 (0, 0))) := Lib.hid (bblk hb (by simp <;> omega) (by repeat (first | with_reducible assumption | with_reducible refine pls_block _ _ ?_ | with_reducible apply blkset2 | with_reducible apply blkset1 | ((with_reducible refine blksetN ?_ ?_ _); (focus (simp <;> omega))) | with_reducible exact blknew _ _ | ((with_reducible refine blknew' _ _ _ ?_); (simp <;> omega)) | with_reducible refine blkal ?_ _)))
  have HO1 := Lib.hid (show Own shFlag 0 w1 GL (.slice A1 N cap1) F1 from hO1.below (Nat.zero_le _) (Below.refl _ _))
  have HBL : Hid (∀ b ∈ F1, w.heap.size + 1 + 1 < b) := Lib.hid fun b hb => by have := hO1.2.2 b hb; simp at this; omega
  clear hb hO1
  go_wp2_with fail
  refine Calls.mono (sZero_any _) ?_
  rintro e0 w2 ⟨rfl, hb⟩
  have HB12 := Lib.hid (show Below w1.heap.size w1 w2 from Below.trans (by (try with_reducible refine bsz ?_); repeat (first | with_reducible exact Below.refl _ _ | ((with_reducible refine bpre ?_); (try simp only [Array.append_assoc]); repeat (first | with_reducible exact Pre.refl _ | with_reducible exact Pre.base _ _ | with_reducible refine Pre.cons _ ?_)) | with_reducible assumption | ((with_reducible refine bsetr ?_); rfl) | with_reducible refine Below.setCell ?_ (by simp <;> omega) _ | with_reducible refine bpl ?_ _ _ | with_reducible refine bal ?_ _ | with_reducible refine bdrew1 ?_ | with_reducible refine bdrew ?_ _)) (hb.mono (by first | omega | (simp <;> omega))))
  have HB2 := Lib.hid (HB1.out.trans (HB12.out.mono HB1.out.size))
  have J0 := Lib.hid (bblk HB12.out (blklt K0.out) K0.out)
  have J1 := Lib.hid (bblk HB12.out (blklt K1.out) K1.out)
  have J2 := Lib.hid (bblk HB12.out (blklt K2.out) K2.out)
  have HO2 := Lib.hid (HO1.out.below (Nat.le_refl _) HB12.out)
  obtain ⟨q, hq⟩ : ∃ q, w2.heap.size = q := ⟨_, rfl⟩
  have hF1 : Hid (∀ b ∈ F1, b < q) := Lib.hid fun b hb => by rw [← hq]; exact HO2.out.lt b hb
  have hq0 : w.heap.size + 1 + 1 < q := by have := blklt J2.out; omega
  obtain ⟨f0, hf0⟩ : ∃ f0, GL[0]? = some f0 := ⟨_, List.getElem?_eq_getElem (by rw [hN.out]; omega)⟩
  have HF0 := Lib.hid hf0
  clear hb hf0
  go_wp2_with fail
  go_loopw [10, 12] (fun be i wr => ∃ (a bi : Nat) (m : Int × Int) (f : Flg), a ≤ N ∧ bi < N ∧ i = .int .i64 a ∧ be = .int .i64 bi ∧ Hid (GL[bi]? = some f) ∧ Hid (0 < a → lvA CF GL a = (m, f) ∧ inF m) ∧ wr.heap[q]? = some (.cells #[.int .i64 m.1, .int .i64 m.2] 32 (0, 0)) ∧ wr.heap[w.heap.size]? = some (.cells #[.int .i64 tnN, .int .u32 te, .int .i64 sN, .slice A T.length cap] 40 (0, 0)) ∧ wr.heap[w.heap.size + 1]? = some (.cells #[.int .i64 0, .int .i64 0] 32 (0, 0)) ∧ wr.heap[w.heap.size + 1 + 1]? = some (.cells #[.int .i64 0, .int .i64 0, .int .u32 0] 35 (0, 0)) ∧ Hid (Own shFlag 0 wr GL (.slice A1 N cap1) F1) ∧ Below w.heap.size w wr) (fun _ i _ => N - (intOf i).toNat)
  case atStart =>
    have hb2 := HB2.out
    have k0 := J0.out
    have k1 := J1.out
    have k2 := J2.out
    exact ⟨0, 0, (0, 1), f0, Nat.zero_le _, by omega, rfl, rfl, HF0, Lib.hid (fun h => absurd h (by decide)), blknew' _ _ _ hq.symm, (by repeat (first | with_reducible assumption | with_reducible refine pls_block _ _ ?_ | with_reducible apply blkset2 | with_reducible apply blkset1 | ((with_reducible refine blksetN ?_ ?_ _); (focus (simp <;> omega))) | with_reducible exact blknew _ _ | ((with_reducible refine blknew' _ _ _ ?_); (simp <;> omega)) | with_reducible refine blkal ?_ _)), (by repeat (first | with_reducible assumption | with_reducible refine pls_block _ _ ?_ | with_reducible apply blkset2 | with_reducible apply blkset1 | ((with_reducible refine blksetN ?_ ?_ _); (focus (simp <;> omega))) | with_reducible exact blknew _ _ | ((with_reducible refine blknew' _ _ _ ?_); (simp <;> omega)) | with_reducible refine blkal ?_ _)), (by repeat (first | with_reducible assumption | with_reducible refine pls_block _ _ ?_ | with_reducible apply blkset2 | with_reducible apply blkset1 | ((with_reducible refine blksetN ?_ ?_ _); (focus (simp <;> omega))) | with_reducible exact blknew _ _ | ((with_reducible refine blknew' _ _ _ ?_); (simp <;> omega)) | with_reducible refine blkal ?_ _)), Lib.hid (HO2.out.below (Nat.le_refl _) (by subst hq; exact (by (try with_reducible refine bsz ?_); repeat (first | with_reducible exact Below.refl _ _ | ((with_reducible refine bpre ?_); (try simp only [Array.append_assoc]); repeat (first | with_reducible exact Pre.refl _ | with_reducible exact Pre.base _ _ | with_reducible refine Pre.cons _ ?_)) | with_reducible assumption | ((with_reducible refine bsetr ?_); rfl) | with_reducible refine Below.setCell ?_ (by simp <;> omega) _ | with_reducible refine bpl ?_ _ _ | with_reducible refine bal ?_ _ | with_reducible refine bdrew1 ?_ | with_reducible refine bdrew ?_ _)))), (by (try with_reducible refine bsz ?_); repeat (first | with_reducible exact Below.refl _ _ | ((with_reducible refine bpre ?_); (try simp only [Array.append_assoc]); repeat (first | with_reducible exact Pre.refl _ | with_reducible exact Pre.base _ _ | with_reducible refine Pre.cons _ ?_)) | with_reducible assumption | ((with_reducible refine bsetr ?_); rfl) | with_reducible refine Below.setCell ?_ (by simp <;> omega) _ | with_reducible refine bpl ?_ _ _ | with_reducible refine bal ?_ _ | with_reducible refine bdrew1 ?_ | with_reducible refine bdrew ?_ _))⟩
  case round =>
    obtain ⟨a, bi, m, f, ha, hbi, rfl, rfl, hgb, hA, kq, k0, k1, k2, hO, hB⟩ := hrel
    obtain ⟨W0, rfl⟩ : ∃ x, x = wr := ⟨_, rfl⟩
    have yq := blklt kq
    have y0' := blklt k0
    have KQ := Lib.hid kq
    have K0' := Lib.hid k0
    have K1' := Lib.hid k1
    have K2' := Lib.hid k2
    have hzB := hB.size
    obtain ⟨a0, a1, a2, a3⟩ := blkc4 k0
    obtain ⟨_, _, hv, _, _, hoks, hel⟩ := lstFlag hO.out.lst
    injection hv with e1 e2 e3
    obtain ⟨bl, off, e4, hel⟩ := hel (by omega)
    rw [← e1] at e4
    subst e4
    by_cases hlt : a < N
    · have hk8 : (a : Int) < (N : Int) := by omega
      obtain ⟨x, hx, hok, c0, c1, c2⟩ := hel a (by omega)
      have zb := World.block_lt_of_cell? _ _ c0
      simp only at zb
      have hxm := List.mem_of_getElem? hx
      obtain ⟨hxo, hxi⟩ := hmem.out x hxm
      have HXM := Lib.hid hxm
      have HX := Lib.hid hx
      obtain ⟨y, hy⟩ : ∃ y, Hid (CF x = y) := ⟨_, Lib.hid rfl⟩
      have HYI : Hid (inF y) := Lib.hid (by rw [← hy.out]; exact hxi)
      have HKP : Hid (∀ V w' : World, Below V.heap.size V w' → (fun w' => w'.cell? ⟨w.heap.size, 0, none⟩ = some (.int .i64 tnN) ∧ w'.cell? ⟨w.heap.size, 1, none⟩ = some (.int .u32 te) ∧ w'.cell? ⟨w.heap.size, 2, none⟩ = some (.int .i64 sN) ∧ w'.cell? ⟨w.heap.size, 3, none⟩ = some (.slice A T.length cap) ∧ w'.cell? ⟨bl, off + a * 3, none⟩ = some (.int .i64 x.1) ∧ w'.cell? ⟨bl, off + a * 3 + 1, none⟩ = some (.int .i64 x.2.1) ∧ w'.cell? ⟨bl, off + a * 3 + 2, none⟩ = some (.int .u32 x.2.2)) V → (fun w' => w'.cell? ⟨w.heap.size, 0, none⟩ = some (.int .i64 tnN) ∧ w'.cell? ⟨w.heap.size, 1, none⟩ = some (.int .u32 te) ∧ w'.cell? ⟨w.heap.size, 2, none⟩ = some (.int .i64 sN) ∧ w'.cell? ⟨w.heap.size, 3, none⟩ = some (.slice A T.length cap) ∧ w'.cell? ⟨bl, off + a * 3, none⟩ = some (.int .i64 x.1) ∧ w'.cell? ⟨bl, off + a * 3 + 1, none⟩ = some (.int .i64 x.2.1) ∧ w'.cell? ⟨bl, off + a * 3 + 2, none⟩ = some (.int .u32 x.2.2)) w') := Lib.hid fun V w' hb h => ⟨bkeep hb h.1, bkeep hb h.2.1, bkeep hb h.2.2.1, bkeep hb h.2.2.2.1, bkeep hb h.2.2.2.2.1, bkeep hb h.2.2.2.2.2.1, bkeep hb h.2.2.2.2.2.2⟩
      clear kq k0 k1 k2 hel hoks hx hok e1 e2 e3 hxm hxo hxi
      go_upto_region 16 with fail
      go_cut [13] from 46 to 70 (fun s13 wx => ∃ g13 : Nat, s13 = .pointer (some ⟨g13, 0, none⟩) ∧ wx.heap[g13]? = some (.cells #[.int .i64 y.1, .int .i64 y.2] 32 (0, 0)) ∧ Below W0.heap.size W0 wx ∧ W0.heap.size ≤ g13)
      case first =>
        (refine wp_region_held_drew (S := (fun w' => w'.cell? ⟨w.heap.size, 0, none⟩ = some (.int .i64 tnN) ∧ w'.cell? ⟨w.heap.size, 1, none⟩ = some (.int .u32 te) ∧ w'.cell? ⟨w.heap.size, 2, none⟩ = some (.int .i64 sN) ∧ w'.cell? ⟨w.heap.size, 3, none⟩ = some (.slice A T.length cap) ∧ w'.cell? ⟨bl, off + a * 3, none⟩ = some (.int .i64 x.1) ∧ w'.cell? ⟨bl, off + a * 3 + 1, none⟩ = some (.int .i64 x.2.1) ∧ w'.cell? ⟨bl, off + a * 3 + 2, none⟩ = some (.int .u32 x.2.2))) (by kernel_rfl) ?_ (fun hHeld => ?_); (focus (first | exact hS | (simp [*, go_sem]; done) | fail)); refine rg_take 0 (some 53) (v := ?_) rfl (by kernel_rfl) (by kernel_rfl) (by kernel_rfl) (by kernel_rfl) (fun _ _ _ h => h) (Or.inl ⟨by kernel_rfl, ?_⟩) (by assumption) ?_; rotate_left; (focus (intro w' hSw; (try dsimp only at hSw); go_simp; (try with_reducible rfl))); (try simp only [Act.put, List.setIfInBounds_toArray, List.set_cons_zero, List.set_cons_succ]); refine rg_take 1 (some 54) (v := ?_) rfl (by kernel_rfl) (by kernel_rfl) (by kernel_rfl) (by kernel_rfl) (fun _ _ _ h => h) (Or.inl ⟨by kernel_rfl, ?_⟩) (by assumption) ?_; rotate_left; (focus (intro w' hSw; (try dsimp only at hSw); go_simp; (try with_reducible rfl))); (try simp only [Act.put, List.setIfInBounds_toArray, List.set_cons_zero, List.set_cons_succ]); refine rg_take 2 (some 55) (v := ?_) rfl (by kernel_rfl) (by kernel_rfl) (by kernel_rfl) (by kernel_rfl) (fun _ _ _ h => h) (Or.inl ⟨by kernel_rfl, ?_⟩) (by assumption) ?_; rotate_left; (focus (intro w' hSw; (try dsimp only at hSw); go_simp; (try with_reducible rfl))); (try simp only [Act.put, List.setIfInBounds_toArray, List.set_cons_zero, List.set_cons_succ]); refine rg_take 3 (some 56) (v := ?_) rfl (by kernel_rfl) (by kernel_rfl) (by kernel_rfl) (by kernel_rfl) (fun _ _ _ h => h) (Or.inl ⟨by kernel_rfl, ?_⟩) (by assumption) ?_; rotate_left; (focus (intro w' hSw; (try dsimp only at hSw); go_simp; (try with_reducible rfl))); (try simp only [Act.put, List.setIfInBounds_toArray, List.set_cons_zero, List.set_cons_succ]); refine rg_take 4 (some 57) (v := ?_) rfl (by kernel_rfl) (by kernel_rfl) (by kernel_rfl) (by kernel_rfl) (fun _ _ _ h => h) (Or.inl ⟨by kernel_rfl, ?_⟩) (by assumption) ?_; rotate_left; (focus (intro w' hSw; (try dsimp only at hSw); go_simp; (try with_reducible rfl))); (try simp only [Act.put, List.setIfInBounds_toArray, List.set_cons_zero, List.set_cons_succ]); refine wpAnyH_ready (rs := [5, 9]) (by kernel_rfl) (by simp) ?_; refine AllReadyH.cons rfl (fun K hK => ?_) (AllReadyH.cons rfl (fun K hK => ?_) AllReadyH.nil); (focus (go_simp; (go_at_call 24; refine Calls.mono (HCF.out _ x HXM.out (by first | exact hB.trans (bdrew1 (Below.refl _ _)) | exact hB.trans ((bal (bdrew1 (Below.refl _ _)) _).mono hzB) | (have hq := hB; exact (by (try with_reducible refine bsz ?_); repeat (first | with_reducible exact Below.refl _ _ | ((with_reducible refine bpre ?_); (try simp only [Array.append_assoc]); repeat (first | with_reducible exact Pre.refl _ | with_reducible exact Pre.base _ _ | with_reducible refine Pre.cons _ ?_)) | with_reducible assumption | ((with_reducible refine bsetr ?_); rfl) | with_reducible refine Below.setCell ?_ (by simp <;> omega) _ | with_reducible refine bpl ?_ _ _ | with_reducible refine bal ?_ _ | with_reducible refine bdrew1 ?_ | with_reducible refine bdrew ?_ _))))) ?_; rintro e0 w3 ⟨kk, rfl, hb⟩; rw [hy.out]; have hS := HKP.out _ _ hb hHeld; have HB3 := Lib.hid (show Below W0.heap.size W0 w3 from Below.trans (by (try with_reducible refine bsz ?_); repeat (first | with_reducible exact Below.refl _ _ | ((with_reducible refine bpre ?_); (try simp only [Array.append_assoc]); repeat (first | with_reducible exact Pre.refl _ | with_reducible exact Pre.base _ _ | with_reducible refine Pre.cons _ ?_)) | with_reducible assumption | ((with_reducible refine bsetr ?_); rfl) | with_reducible refine Below.setCell ?_ (by simp <;> omega) _ | with_reducible refine bpl ?_ _ _ | with_reducible refine bal ?_ _ | with_reducible refine bdrew1 ?_ | with_reducible refine bdrew ?_ _)) (hb.mono (by first | omega | (simp <;> omega)))); (try (have kq := bblk hb (blklt kp) kp; clear kp; have kp := kq; clear kq; obtain ⟨pz0, pz1, pf0, pf1⟩ := blk2 kp; have pzz := blklt kp)); have hz3 := HB3.out.size; have v1 := World.block_lt_of_cell? _ _ hS.1; have v2 := World.block_lt_of_cell? _ _ hS.2.2.2.2.1; simp only at v1 v2; clear hb); go_wp2_with fail; refine hK.out _ _ ?_ (fun hHeld => ?_); (focus (first | exact hS | (simp [*, go_sem]; done) | fail)); clear hK K; (try simp only [Act.put, List.setIfInBounds_toArray, List.set_cons_zero, List.set_cons_succ]); refine rg_take 6 (some 52) (v := ?_) rfl (by kernel_rfl) (by kernel_rfl) (by kernel_rfl) (by kernel_rfl) (fun _ _ _ h => h) (Or.inl ⟨by kernel_rfl, ?_⟩) (by assumption) ?_; rotate_left; (focus (intro w' hSw; (try dsimp only at hSw); go_simp; (try with_reducible rfl))); (try simp only [Act.put, List.setIfInBounds_toArray, List.set_cons_zero, List.set_cons_succ]); refine rg_take 7 (some 59) (v := ?_) rfl (by kernel_rfl) (by kernel_rfl) (by kernel_rfl) (by kernel_rfl) (fun _ _ _ h => h) (Or.inl ⟨by kernel_rfl, ?_⟩) (by assumption) ?_; rotate_left; (focus (intro w' hSw; (try dsimp only at hSw); go_simp; (try with_reducible rfl))); (try simp only [Act.put, List.setIfInBounds_toArray, List.set_cons_zero, List.set_cons_succ]); refine rg_take 8 (some 60) (v := ?_) rfl (by kernel_rfl) (by kernel_rfl) (by kernel_rfl) (by kernel_rfl) (fun _ _ _ h => h) (Or.inl ⟨by kernel_rfl, ?_⟩) (by assumption) ?_; rotate_left; (focus (intro w' hSw; (try dsimp only at hSw); go_simp; (try with_reducible rfl))); (try simp only [Act.put, List.setIfInBounds_toArray, List.set_cons_zero, List.set_cons_succ]); refine wpAnyH_ready (rs := [9]) (by kernel_rfl) (by simp) ?_; refine AllReadyH.cons rfl (fun K hK => ?_) AllReadyH.nil; (try go_simp); refine hK.out _ _ ?_ (fun hHeld => ?_); (focus (first | exact hS | (simp [*, go_sem]; done) | fail)); clear hK K; (try simp only [Act.put, List.setIfInBounds_toArray, List.set_cons_zero, List.set_cons_succ]); refine wpAnyH_ready (rs := [10]) (by kernel_rfl) (by simp) ?_; refine AllReadyH.cons rfl (fun K hK => ?_) AllReadyH.nil; (try go_simp); refine hK.out _ _ ?_ (fun hHeld => ?_); (focus (first | exact hS | (simp [*, go_sem]; done) | fail)); clear hK K; (try simp only [Act.put, List.setIfInBounds_toArray, List.set_cons_zero, List.set_cons_succ]); refine rg_take 11 (some 14) (v := ?_) rfl (by kernel_rfl) (by kernel_rfl) (by kernel_rfl) (by kernel_rfl) (fun _ _ _ h => h) (Or.inl ⟨by kernel_rfl, ?_⟩) (by assumption) ?_; rotate_left; (focus (intro w' hSw; (try dsimp only at hSw); go_simp; (try with_reducible rfl))); (try simp only [Act.put, List.setIfInBounds_toArray, List.set_cons_zero, List.set_cons_succ]); refine wpAnyH_done (by kernel_rfl) ?_ _)); rotate_left 1; (focus (((try go_simp); have hS := HKP.out _ _ (bal (Below.refl W0.drew.heap.size W0.drew) (.cells #[.int .i64 0, .int .i64 0] 32)) hHeld; have kp : (W0.drew.alloc (.cells #[.int .i64 0, .int .i64 0] 32)).heap[W0.heap.size]? = _ := blknew W0.drew _; have hnb : W0.heap.size ≤ W0.heap.size := Nat.le_refl _); refine hK.out _ _ ?_ (fun hHeld => ?_); (focus (first | exact hS | (simp [*, go_sem]; done) | fail)); clear hK K; (try simp only [Act.put, List.setIfInBounds_toArray, List.set_cons_zero, List.set_cons_succ]); refine wpAnyH_ready (rs := [5]) (by kernel_rfl) (by simp) ?_; refine AllReadyH.cons rfl (fun K hK => ?_) AllReadyH.nil; go_simp; (go_at_call 24; refine Calls.mono (HCF.out _ x HXM.out (by first | exact hB.trans (bdrew1 (Below.refl _ _)) | exact hB.trans ((bal (bdrew1 (Below.refl _ _)) _).mono hzB) | (have hq := hB; exact (by (try with_reducible refine bsz ?_); repeat (first | with_reducible exact Below.refl _ _ | ((with_reducible refine bpre ?_); (try simp only [Array.append_assoc]); repeat (first | with_reducible exact Pre.refl _ | with_reducible exact Pre.base _ _ | with_reducible refine Pre.cons _ ?_)) | with_reducible assumption | ((with_reducible refine bsetr ?_); rfl) | with_reducible refine Below.setCell ?_ (by simp <;> omega) _ | with_reducible refine bpl ?_ _ _ | with_reducible refine bal ?_ _ | with_reducible refine bdrew1 ?_ | with_reducible refine bdrew ?_ _))))) ?_; rintro e0 w3 ⟨kk, rfl, hb⟩; rw [hy.out]; have hS := HKP.out _ _ hb hHeld; have HB3 := Lib.hid (show Below W0.heap.size W0 w3 from Below.trans (by (try with_reducible refine bsz ?_); repeat (first | with_reducible exact Below.refl _ _ | ((with_reducible refine bpre ?_); (try simp only [Array.append_assoc]); repeat (first | with_reducible exact Pre.refl _ | with_reducible exact Pre.base _ _ | with_reducible refine Pre.cons _ ?_)) | with_reducible assumption | ((with_reducible refine bsetr ?_); rfl) | with_reducible refine Below.setCell ?_ (by simp <;> omega) _ | with_reducible refine bpl ?_ _ _ | with_reducible refine bal ?_ _ | with_reducible refine bdrew1 ?_ | with_reducible refine bdrew ?_ _)) (hb.mono (by first | omega | (simp <;> omega)))); (try (have kq := bblk hb (blklt kp) kp; clear kp; have kp := kq; clear kq; obtain ⟨pz0, pz1, pf0, pf1⟩ := blk2 kp; have pzz := blklt kp)); have hz3 := HB3.out.size; have v1 := World.block_lt_of_cell? _ _ hS.1; have v2 := World.block_lt_of_cell? _ _ hS.2.2.2.2.1; simp only at v1 v2; clear hb); go_wp2_with fail; refine hK.out _ _ ?_ (fun hHeld => ?_); (focus (first | exact hS | (simp [*, go_sem]; done) | fail)); clear hK K; (try simp only [Act.put, List.setIfInBounds_toArray, List.set_cons_zero, List.set_cons_succ]); refine rg_take 6 (some 52) (v := ?_) rfl (by kernel_rfl) (by kernel_rfl) (by kernel_rfl) (by kernel_rfl) (fun _ _ _ h => h) (Or.inl ⟨by kernel_rfl, ?_⟩) (by assumption) ?_; rotate_left; (focus (intro w' hSw; (try dsimp only at hSw); go_simp; (try with_reducible rfl))); (try simp only [Act.put, List.setIfInBounds_toArray, List.set_cons_zero, List.set_cons_succ]); refine rg_take 7 (some 59) (v := ?_) rfl (by kernel_rfl) (by kernel_rfl) (by kernel_rfl) (by kernel_rfl) (fun _ _ _ h => h) (Or.inl ⟨by kernel_rfl, ?_⟩) (by assumption) ?_; rotate_left; (focus (intro w' hSw; (try dsimp only at hSw); go_simp; (try with_reducible rfl))); (try simp only [Act.put, List.setIfInBounds_toArray, List.set_cons_zero, List.set_cons_succ]); refine rg_take 8 (some 60) (v := ?_) rfl (by kernel_rfl) (by kernel_rfl) (by kernel_rfl) (by kernel_rfl) (fun _ _ _ h => h) (Or.inl ⟨by kernel_rfl, ?_⟩) (by assumption) ?_; rotate_left; (focus (intro w' hSw; (try dsimp only at hSw); go_simp; (try with_reducible rfl))); (try simp only [Act.put, List.setIfInBounds_toArray, List.set_cons_zero, List.set_cons_succ]); refine wpAnyH_ready (rs := [10]) (by kernel_rfl) (by simp) ?_; refine AllReadyH.cons rfl (fun K hK => ?_) AllReadyH.nil; (try go_simp); refine hK.out _ _ ?_ (fun hHeld => ?_); (focus (first | exact hS | (simp [*, go_sem]; done) | fail)); clear hK K; (try simp only [Act.put, List.setIfInBounds_toArray, List.set_cons_zero, List.set_cons_succ]); refine rg_take 11 (some 14) (v := ?_) rfl (by kernel_rfl) (by kernel_rfl) (by kernel_rfl) (by kernel_rfl) (fun _ _ _ h => h) (Or.inl ⟨by kernel_rfl, ?_⟩) (by assumption) ?_; rotate_left; (focus (intro w' hSw; (try dsimp only at hSw); go_simp; (try with_reducible rfl))); (try simp only [Act.put, List.setIfInBounds_toArray, List.set_cons_zero, List.set_cons_succ]); refine wpAnyH_done (by kernel_rfl) ?_ _)); rotate_left 1)
        all_goals
          clear hHeld
          have hb3 := HB3.out
          go_wp2_with fail
          go_meet
          exact ⟨_, rfl, (by repeat (first | with_reducible assumption | with_reducible refine pls_block _ _ ?_ | with_reducible apply blkset2 | with_reducible apply blkset1 | ((with_reducible refine blksetN ?_ ?_ _); (focus (simp <;> omega))) | with_reducible exact blknew _ _ | ((with_reducible refine blknew' _ _ _ ?_); (simp <;> omega)) | with_reducible refine blkal ?_ _)), (by (try with_reducible refine bsz ?_); repeat (first | with_reducible exact Below.refl _ _ | ((with_reducible refine bpre ?_); (try simp only [Array.append_assoc]); repeat (first | with_reducible exact Pre.refl _ | with_reducible exact Pre.base _ _ | with_reducible refine Pre.cons _ ?_)) | with_reducible assumption | ((with_reducible refine bsetr ?_); rfl) | with_reducible refine Below.setCell ?_ (by simp <;> omega) _ | with_reducible refine bpl ?_ _ _ | with_reducible refine bal ?_ _ | with_reducible refine bdrew1 ?_ | with_reducible refine bdrew ?_ _)), (by first | omega | (simp <;> omega))⟩
      case rest =>
        obtain ⟨g13, rfl, ky, hBx, hg13⟩ := hcut
        obtain ⟨w5, rfl⟩ : ∃ z, z = wc := ⟨_, rfl⟩
        have HB5 := Lib.hid hBx
        have hz5 := hBx.size
        have KY := Lib.hid ky
        obtain ⟨u0, u1⟩ := blkc2 ky
        have y5 := blklt ky
        have kq5 := bblk hBx yq KQ.out
        obtain ⟨q0, q1, qf0, qf1⟩ := blk2 kq5
        have yq5 := blklt kq5
        clear hBx ky kq5
        by_cases ha0 : a = 0
        · subst ha0
          have hnx : Hid (lvA CF GL (0 + 1) = (y, x)) := Lib.hid (by rw [Nat.zero_add, lvA_zero HX.out, hy.out])
          have hab : (((0 : Nat) : Int) == 0) = true := rfl
          go_wp2_with fail
          go_roundw
          case rel =>
            have hb5 := HB5.out
            exact ⟨0 + 1, 0, y, x, by omega, by omega, by go_num, rfl, HX, Lib.hid (fun _ => ⟨hnx.out, HYI.out⟩), blkset2 (bblk hb5 yq KQ.out) _ _, blkset (blkset (bblk hb5 y0' K0'.out) (by show w.heap.size ≠ q; omega) _) (by show w.heap.size ≠ q; omega) _, blkset (blkset (bblk hb5 (blklt K1'.out) K1'.out) (by show w.heap.size + 1 ≠ q; omega) _) (by show w.heap.size + 1 ≠ q; omega) _, blkset (blkset (bblk hb5 (blklt K2'.out) K2'.out) (by show w.heap.size + 1 + 1 ≠ q; omega) _) (by show w.heap.size + 1 + 1 ≠ q; omega) _, Lib.hid ((hO.out.below (Nat.le_refl _) hb5).chg (Chg.set (F := [q]) (Chg.set (F := [q]) (Chg.refl _ _) (by simp) _) (by simp) _) (fun b hb => by have := hF1.out b hb; simp; omega)), Below.setCell (Below.setCell (hB.trans (hb5.mono hzB)) (by show w.heap.size ≤ q; omega) _) (by show w.heap.size ≤ q; omega) _⟩
          case measure => simp [intOf]; omega
        · have ha1 : 0 < a := by omega
          have hab : ((a : Int) == 0) = false := by rw [beq_eq_false_iff_ne]; omega
          obtain ⟨hA0, hmi⟩ := hA.out ha1
          have HMI := Lib.hid hmi
          obtain ⟨cv, hcv⟩ : ∃ cv, Hid (cmpY (y.1 * m.2) (m.1 * y.2) = cv) := ⟨_, Lib.hid rfl⟩
          have HCMP : Hid (∀ w, Calls Tryz.prog 25 #[.agg #[.int .i64 y.1, .int .i64 y.2], .agg #[.int .i64 m.1, .int .i64 m.2]] w fun e w' => e = .returned (.int .i64 cv) ∧ Below w.heap.size w w') := Lib.hid fun w => by
            have := scompareF_any y m w HYI.out HMI.out
            rw [hcv.out] at this
            exact this
          have hnx0 : lvA CF GL (a + 1) = if cv < 0 then (y, x) else (m, f) := by
            rw [lvA_succ HX.out ha1, hA0]
            unfold lvB
            simp only
            rw [hy.out, hcv.out]
          clear hA0 hmi
          by_cases hlt0 : cv < 0
          · have hnx : Hid (lvA CF GL (a + 1) = (y, x)) := Lib.hid (by rw [hnx0, if_pos hlt0])
            clear hnx0
            go_wp2_with fail
            refine Calls.mono (HCMP.out _) ?_
            rintro e0 w6 ⟨rfl, hb⟩
            have HB6 := Lib.hid (show Below W0.heap.size W0 w6 from HB5.out.trans (hb.mono hz5))
            have ky6 := bblk hb (blklt KY.out) KY.out
            have kq6 := bblk HB6.out yq KQ.out
            clear u0 u1 q0 q1 qf0 qf1
            obtain ⟨u0, u1⟩ := blkc2 ky6
            obtain ⟨q0, q1, qf0, qf1⟩ := blk2 kq6
            have yq6 := blklt kq6
            have yy6 := blklt ky6
            clear hb ky6 kq6
            go_wp2_with fail
            go_roundw
            case rel =>
              have hb5 := HB6.out
              exact ⟨a + 1, a, y, x, by omega, hlt, by go_num, rfl, HX, Lib.hid (fun _ => ⟨hnx.out, HYI.out⟩), blkset2 (bblk hb5 yq KQ.out) _ _, blkset (blkset (bblk hb5 y0' K0'.out) (by show w.heap.size ≠ q; omega) _) (by show w.heap.size ≠ q; omega) _, blkset (blkset (bblk hb5 (blklt K1'.out) K1'.out) (by show w.heap.size + 1 ≠ q; omega) _) (by show w.heap.size + 1 ≠ q; omega) _, blkset (blkset (bblk hb5 (blklt K2'.out) K2'.out) (by show w.heap.size + 1 + 1 ≠ q; omega) _) (by show w.heap.size + 1 + 1 ≠ q; omega) _, Lib.hid ((hO.out.below (Nat.le_refl _) hb5).chg (Chg.set (F := [q]) (Chg.set (F := [q]) (Chg.refl _ _) (by simp) _) (by simp) _) (fun b hb => by have := hF1.out b hb; simp; omega)), Below.setCell (Below.setCell (hB.trans (hb5.mono hzB)) (by show w.heap.size ≤ q; omega) _) (by show w.heap.size ≤ q; omega) _⟩
            case measure => simp [intOf]; omega
          · have hnx : Hid (lvA CF GL (a + 1) = (m, f)) := Lib.hid (by rw [hnx0, if_neg hlt0])
            clear hnx0
            go_wp2_with fail
            refine Calls.mono (HCMP.out _) ?_
            rintro e0 w6 ⟨rfl, hb⟩
            have HB6 := Lib.hid (show Below W0.heap.size W0 w6 from HB5.out.trans (hb.mono hz5))
            have ky6 := bblk hb (blklt KY.out) KY.out
            have kq6 := bblk HB6.out yq KQ.out
            clear u0 u1 q0 q1 qf0 qf1
            obtain ⟨u0, u1⟩ := blkc2 ky6
            obtain ⟨q0, q1, qf0, qf1⟩ := blk2 kq6
            have yq6 := blklt kq6
            have yy6 := blklt ky6
            clear hb ky6 kq6
            go_wp2_with fail
            go_roundw
            case rel =>
              have hb6 := HB6.out
              exact ⟨a + 1, bi, m, f, by omega, hbi, by go_num, rfl, hgb, Lib.hid (fun _ => ⟨hnx.out, HMI.out⟩), bblk hb6 yq KQ.out, bblk hb6 y0' K0'.out, bblk hb6 (blklt K1'.out) K1'.out, bblk hb6 (blklt K2'.out) K2'.out, Lib.hid (hO.out.below (Nat.le_refl _) hb6), hB.trans (hb6.mono hzB)⟩
            case measure => simp [intOf]; omega
    · have ee : a = N := by omega
      subst ee
      have hb8 : (bi : Int) < (a : Int) := by omega
      obtain ⟨x, hx, _, c0, c1, c2⟩ := hel bi (by show bi < List.length (α := Flg) GL; rw [hN.out]; exact hbi)
      have hxf : x = f := Option.some.inj (hx.symm.trans hgb.out)
      subst hxf
      have zb := World.block_lt_of_cell? _ _ c0
      simp only at zb
      have hfin : Hid (lvR tnN te sN T gs = (m, x)) := Lib.hid (by rw [hr.out]; exact (hA.out (by omega)).1)
      obtain ⟨q0, q1⟩ := blkc2 kq
      obtain ⟨u0, u1, u2, u3⟩ := blk2 k1
      obtain ⟨u4, u5, u6, u7, u8, u9⟩ := blk3 k2
      have y1' := blklt k1
      have y2' := blklt k2
      have hn1 : q ≠ w.heap.size + 1 := by omega
      have hn2 : q ≠ w.heap.size + 1 + 1 := by omega
      have hblF : bl ∈ F1 := own_blY hO.out (by have := hN.out; show 0 < List.length (α := Flg) GL; omega)
      have hn3 : bl ≠ w.heap.size + 1 := by have := HBL.out bl hblF; omega
      have hn4 : bl ≠ w.heap.size + 1 + 1 := by have := HBL.out bl hblF; omega
      clear kq k0 k1 k2 hel hoks hx hblF e1 e2 e3
      go_wp2_with fail
      (refine wp_region_held_drew (S := (fun w' => w'.cell? ⟨q, 0, none⟩ = some (.int .i64 m.1) ∧ w'.cell? ⟨q, 1, none⟩ = some (.int .i64 m.2) ∧ w'.cell? ⟨bl, off + bi * 3, none⟩ = some (.int .i64 x.1) ∧ w'.cell? ⟨bl, off + bi * 3 + 1, none⟩ = some (.int .i64 x.2.1) ∧ w'.cell? ⟨bl, off + bi * 3 + 2, none⟩ = some (.int .u32 x.2.2))) (by kernel_rfl) ?_ (fun hHeld => ?_); (focus (first | exact hS | (simp [*, go_sem]; done) | fail)); refine rg_take 0 (some 71) (v := ?_) rfl (by kernel_rfl) (by kernel_rfl) (by kernel_rfl) (by kernel_rfl) (fun _ _ _ h => h) (Or.inl ⟨by kernel_rfl, ?_⟩) (by assumption) ?_; rotate_left; (focus (intro w' hSw; (try dsimp only at hSw); go_simp; (try with_reducible rfl))); (try simp only [Act.put, List.setIfInBounds_toArray, List.set_cons_zero, List.set_cons_succ]); refine rg_take 1 (some 72) (v := ?_) rfl (by kernel_rfl) (by kernel_rfl) (by kernel_rfl) (by kernel_rfl) (fun _ _ _ h => h) (Or.inl ⟨by kernel_rfl, ?_⟩) (by assumption) ?_; rotate_left; (focus (intro w' hSw; (try dsimp only at hSw); go_simp; (try with_reducible rfl))); (try simp only [Act.put, List.setIfInBounds_toArray, List.set_cons_zero, List.set_cons_succ]); refine rg_take 2 (some 73) (v := ?_) rfl (by kernel_rfl) (by kernel_rfl) (by kernel_rfl) (by kernel_rfl) (fun _ _ _ h => h) (Or.inl ⟨by kernel_rfl, ?_⟩) (by assumption) ?_; rotate_left; (focus (intro w' hSw; (try dsimp only at hSw); go_simp; (try with_reducible rfl))); (try simp only [Act.put, List.setIfInBounds_toArray, List.set_cons_zero, List.set_cons_succ]); refine rg_take 3 (some 74) (v := ?_) rfl (by kernel_rfl) (by kernel_rfl) (by kernel_rfl) (by kernel_rfl) (fun _ _ _ h => h) (Or.inl ⟨by kernel_rfl, ?_⟩) (by assumption) ?_; rotate_left; (focus (intro w' hSw; (try dsimp only at hSw); go_simp; (try with_reducible rfl))); (try simp only [Act.put, List.setIfInBounds_toArray, List.set_cons_zero, List.set_cons_succ]); refine rg_take 4 (some 75) (v := ?_) rfl (by kernel_rfl) (by kernel_rfl) (by kernel_rfl) (by kernel_rfl) (fun _ _ _ h => h) (Or.inl ⟨by kernel_rfl, ?_⟩) (by assumption) ?_; rotate_left; (focus (intro w' hSw; (try dsimp only at hSw); go_simp; (try with_reducible rfl))); (try simp only [Act.put, List.setIfInBounds_toArray, List.set_cons_zero, List.set_cons_succ]); refine wpAnyH_ready (rs := [5]) (by kernel_rfl) (by simp) ?_; refine AllReadyH.cons rfl (fun K hK => ?_) AllReadyH.nil; (try go_simp); refine hK.out _ _ ?_ (fun hHeld => ?_); (focus (first | exact hS | (simp [*, go_sem]; done) | fail)); clear hK K; (try simp only [Act.put, List.setIfInBounds_toArray, List.set_cons_zero, List.set_cons_succ]); refine wpAnyH_ready (rs := [6]) (by kernel_rfl) (by simp) ?_; refine AllReadyH.cons rfl (fun K hK => ?_) AllReadyH.nil; (try go_simp); refine hK.out _ _ ?_ (fun hHeld => ?_); (focus (first | exact hS | (simp [*, go_sem]; done) | fail)); clear hK K; (try simp only [Act.put, List.setIfInBounds_toArray, List.set_cons_zero, List.set_cons_succ]); refine rg_take 7 (some 6) (v := ?_) rfl (by kernel_rfl) (by kernel_rfl) (by kernel_rfl) (by kernel_rfl) (fun _ _ _ h => h) (Or.inl ⟨by kernel_rfl, ?_⟩) (by assumption) ?_; rotate_left; (focus (intro w' hSw; (try dsimp only at hSw); go_simp; (try with_reducible rfl))); (try simp only [Act.put, List.setIfInBounds_toArray, List.set_cons_zero, List.set_cons_succ]); refine wpAnyH_done (by kernel_rfl) ?_ _)
      clear hHeld
      go_wp2_with fail
      exact bodyPost_ret (v := .tuple #[.agg #[.int .i64 m.1, .int .i64 m.2], .agg #[.int .i64 x.1, .int .i64 x.2.1, .int .u32 x.2.2], .int .i64 0]) (by simp [results, Tryz.results7, go_sem, *]) rfl ⟨by rw [hfin.out, hc.out], (by (try with_reducible refine bsz ?_); repeat (first | with_reducible exact Below.refl _ _ | ((with_reducible refine bpre ?_); (try simp only [Array.append_assoc]); repeat (first | with_reducible exact Pre.refl _ | with_reducible exact Pre.base _ _ | with_reducible refine Pre.cons _ ?_)) | with_reducible assumption | ((with_reducible refine bsetr ?_); rfl) | with_reducible refine Below.setCell ?_ (by simp <;> omega) _ | with_reducible refine bpl ?_ _ _ | with_reducible refine bal ?_ _ | with_reducible refine bdrew1 ?_ | with_reducible refine bdrew ?_ _))⟩
end Go.Proofs.YtkfjlimlodbcgaaGreat

/- impl.WithoutForbidden. -/
import Derived.Test.YtfdobpeekipafaaTd
import Derived.Test.YtfdobpeekipafaaFp
import Derived.Test.YtfdobpeekipafaaFb
import Derived.Test.YtfdobpeekipafaaVr
namespace Go.Proofs.Ytfdobpeekipafaa
open Go.ChangeShapes Go.WideShapes Go.RowKit
set_option linter.unusedVariables false
set_option linter.unusedSimpArgs false
attribute [local irreducible] Calls
/-- The code of a sum and forbidden graphs; the terms whose graphs are free. -/
def pkC (tn te s : Int) (xs : List Trm) (gs : List (Int × Int)) : Int := if sumOk tn te s xs then forbC gs else 1
def wfP (gs : List (Int × Int)) (d : Trm) : Bool := !freeB d.1.2.1.toNat d.1.2.2 gs
def wfL (gs : List (Int × Int)) (xs : List Trm) : List Trm := xs.filter fun d => !wfP gs d
theorem partsOk_any (w : World) (tn te s : Int) (xs : List Trm) (gs : List (Int × Int)) (v gv : Value) (h : Lst shTerm w xs v) (hg : Lst shGr w gs gv) (he : 0 ≤ te ∧ te ≤ 4294967295) (hl : gs.length ≤ 1048576) :
    Calls Try.prog 84 #[.agg #[.int .i64 tn, .int .u32 te, .int .i64 s, v], gv] w fun e w' => e = .returned (.int .i64 (pkC tn te s xs gs)) ∧ Below w.heap.size w w' := by
  obtain ⟨A0, cap0, rfl, _, _⟩ := formTerm h
  obtain ⟨A1, cap1, rfl, _, _⟩ := formGraph hg
  have H := Lib.hid h
  have HG := Lib.hid hg
  clear h hg
  cases hs : sumOk tn te s xs
  · have hr : Hid (pkC tn te s xs gs = 1) := Lib.hid (by simp [pkC, hs])
    have HS := Lib.hid hs
    clear hs
    go_enter Try.func84, Try.ntmps84
    go_wp2_with (first | (go_at_call 129; refine Calls.mono (ValidSum_any _ tn te s xs _ (H.out.below (by (try with_reducible refine bsz ?_); repeat (first | with_reducible exact Below.refl _ _ | ((with_reducible refine bpre ?_); (try simp only [Array.append_assoc]); repeat (first | with_reducible exact Pre.refl _ | with_reducible exact Pre.base _ _ | with_reducible refine Pre.cons _ ?_)) | with_reducible assumption | ((with_reducible refine bsetr ?_); rfl) | with_reducible refine Below.setCell ?_ (by simp <;> omega) _ | with_reducible refine bpl ?_ _ _ | with_reducible refine bal ?_ _ | with_reducible refine bdrew1 ?_ | with_reducible refine bdrew ?_ _))) he) ?_; rw [HS.out]; rintro e w1 ⟨rfl, hb⟩; obtain ⟨X, m, rfl⟩ := plsOf hb; clear hb))
    exact bodyPost_ret (v := .int .i64 1) (by simp [results, Try.results84, go_sem]) rfl ⟨by rw [hr.out], (by (try with_reducible refine bsz ?_); repeat (first | with_reducible exact Below.refl _ _ | ((with_reducible refine bpre ?_); (try simp only [Array.append_assoc]); repeat (first | with_reducible exact Pre.refl _ | with_reducible exact Pre.base _ _ | with_reducible refine Pre.cons _ ?_)) | with_reducible assumption | ((with_reducible refine bsetr ?_); rfl) | with_reducible refine Below.setCell ?_ (by simp <;> omega) _ | with_reducible refine bpl ?_ _ _ | with_reducible refine bal ?_ _ | with_reducible refine bdrew1 ?_ | with_reducible refine bdrew ?_ _))⟩
  · have hr : Hid (pkC tn te s xs gs = forbC gs) := Lib.hid (by simp [pkC, hs])
    have HS := Lib.hid hs
    clear hs
    go_enter Try.func84, Try.ntmps84
    go_wp2_with (first | (go_at_call 129; refine Calls.mono (ValidSum_any _ tn te s xs _ (H.out.below (by (try with_reducible refine bsz ?_); repeat (first | with_reducible exact Below.refl _ _ | ((with_reducible refine bpre ?_); (try simp only [Array.append_assoc]); repeat (first | with_reducible exact Pre.refl _ | with_reducible exact Pre.base _ _ | with_reducible refine Pre.cons _ ?_)) | with_reducible assumption | ((with_reducible refine bsetr ?_); rfl) | with_reducible refine Below.setCell ?_ (by simp <;> omega) _ | with_reducible refine bpl ?_ _ _ | with_reducible refine bal ?_ _ | with_reducible refine bdrew1 ?_ | with_reducible refine bdrew ?_ _))) he) ?_; rw [HS.out]; rintro e w1 ⟨rfl, hb⟩; obtain ⟨X, m, rfl⟩ := plsOf hb; clear hb) | (go_at_call 130; refine Calls.mono (forbiddenOk_any _ gs _ (HG.out.below (by (try with_reducible refine bsz ?_); repeat (first | with_reducible exact Below.refl _ _ | ((with_reducible refine bpre ?_); (try simp only [Array.append_assoc]); repeat (first | with_reducible exact Pre.refl _ | with_reducible exact Pre.base _ _ | with_reducible refine Pre.cons _ ?_)) | with_reducible assumption | ((with_reducible refine bsetr ?_); rfl) | with_reducible refine Below.setCell ?_ (by simp <;> omega) _ | with_reducible refine bpl ?_ _ _ | with_reducible refine bal ?_ _ | with_reducible refine bdrew1 ?_ | with_reducible refine bdrew ?_ _))) hl) ?_; rintro e w1 ⟨rfl, hb⟩; obtain ⟨X, m, rfl⟩ := plsOf hb; clear hb))
    exact bodyPost_ret (v := .int .i64 (forbC gs)) (by simp [results, Try.results84, go_sem]) rfl ⟨by rw [hr.out], (by (try with_reducible refine bsz ?_); repeat (first | with_reducible exact Below.refl _ _ | ((with_reducible refine bpre ?_); (try simp only [Array.append_assoc]); repeat (first | with_reducible exact Pre.refl _ | with_reducible exact Pre.base _ _ | with_reducible refine Pre.cons _ ?_)) | with_reducible assumption | ((with_reducible refine bsetr ?_); rfl) | with_reducible refine Below.setCell ?_ (by simp <;> omega) _ | with_reducible refine bpl ?_ _ _ | with_reducible refine bal ?_ _ | with_reducible refine bdrew1 ?_ | with_reducible refine bdrew ?_ _))⟩
theorem WithoutForbidden1 (W : World) (bf : Nat) (gs : List (Int × Int)) (gv : Value) (d : Trm) (hf : W.heap[bf]? = some (.cells #[gv] 64 (0, 0))) (hg : Lst shGr W gs gv) (hn : 0 ≤ d.1.2.1 ∧ d.1.2.1 ≤ 5) (hl : gs.length ≤ 1048576) (hgs : ∀ d ∈ gs, 0 ≤ d.1 ∧ d.1 ≤ 5) :
    Calls Try.prog 87 #[.agg #[.int .i64 d.1.1, .int .i64 d.1.2.1, .int .u32 d.1.2.2, .int .i64 d.2.1, .int .i64 d.2.2], .pointer (some ⟨bf, 0, none⟩)] W fun e W' => e = .returned (.bool (wfP gs d)) ∧ Below W.heap.size W W' := by
  obtain ⟨n, hn2⟩ := Int.eq_ofNat_of_zero_le hn.1
  obtain ⟨A1, cap1, rfl, _, _⟩ := formGraph hg
  have HG := Lib.hid hg
  have HGS := Lib.hid hgs
  have c0 : W.cell? ⟨bf, 0, none⟩ = some (.slice A1 gs.length cap1) := by simp [World.cell?, hf]
  have z0 := blklt hf
  have hr : Hid (wfP gs d = !freeB n d.1.2.2 gs) := Lib.hid (by unfold wfP; rw [hn2]; rfl)
  have hn5 : n ≤ 5 := by have h2 := hn.2; rw [hn2] at h2; omega
  rw [hn2]
  clear hg hgs hf hn hn2
  go_enter Try.func87, Try.ntmps87
  go_wp2_with (first | (go_at_call 88; refine Calls.mono (free_any _ n d.1.2.2 gs _ (HG.out.below (by (try with_reducible refine bsz ?_); repeat (first | with_reducible exact Below.refl _ _ | ((with_reducible refine bpre ?_); (try simp only [Array.append_assoc]); repeat (first | with_reducible exact Pre.refl _ | with_reducible exact Pre.base _ _ | with_reducible refine Pre.cons _ ?_)) | with_reducible assumption | ((with_reducible refine bsetr ?_); rfl) | with_reducible refine Below.setCell ?_ (by simp <;> omega) _ | with_reducible refine bpl ?_ _ _ | with_reducible refine bal ?_ _ | with_reducible refine bdrew1 ?_ | with_reducible refine bdrew ?_ _))) hn5 hl HGS.out) ?_; rintro e w1 ⟨rfl, hb⟩; obtain ⟨X, m, rfl⟩ := plsOf hb; clear hb))
  exact bodyPost_ret (v := .bool (!freeB n d.1.2.2 gs)) (by simp [results, Try.results87, go_sem]) rfl ⟨by rw [hr.out], (by (try with_reducible refine bsz ?_); repeat (first | with_reducible exact Below.refl _ _ | ((with_reducible refine bpre ?_); (try simp only [Array.append_assoc]); repeat (first | with_reducible exact Pre.refl _ | with_reducible exact Pre.base _ _ | with_reducible refine Pre.cons _ ?_)) | with_reducible assumption | ((with_reducible refine bsetr ?_); rfl) | with_reducible refine Below.setCell ?_ (by simp <;> omega) _ | with_reducible refine bpl ?_ _ _ | with_reducible refine bal ?_ _ | with_reducible refine bdrew1 ?_ | with_reducible refine bdrew ?_ _))⟩
set_option maxHeartbeats 2000000 in
theorem WithoutForbidden_any (w : World) (tn te s : Int) (xs : List Trm) (gs : List (Int × Int)) (v gv : Value) (h : Lst shTerm w xs v) (hg : Lst shGr w gs gv) (he : 0 ≤ te ∧ te ≤ 4294967295) (hl : gs.length ≤ 1048576) :
    Calls Try.prog 33 #[.agg #[.int .i64 tn, .int .u32 te, .int .i64 s, v], gv] w (SumRet w.heap.size w (pkC tn te s xs gs) (tdT (pkC tn te s xs gs) (tn, te)) (tdS (pkC tn te s xs gs) s) (tdL (pkC tn te s xs gs) (wfL gs xs))) := by
  obtain ⟨A0, cap0, rfl, _, _⟩ := formTerm h
  obtain ⟨A1, cap1, rfl, _, _⟩ := formGraph hg
  have H := Lib.hid h
  have HG := Lib.hid hg
  cases hc : (pkC tn te s xs gs != 0)
  rotate_left
  · have h0 : pkC tn te s xs gs ≠ 0 := by simpa using hc
    obtain ⟨T, hT⟩ : ∃ T, Hid (pkC tn te s xs gs = T) := ⟨_, Lib.hid rfl⟩
    have HT : Hid (tdT T (tn, te) = (0, 0) ∧ tdS T s = 0 ∧ tdL T (wfL gs xs) = []) := Lib.hid (by rw [← hT.out]; exact ⟨if_neg h0, if_neg h0, if_neg h0⟩)
    rw [hT.out] at hc ⊢
    clear h0 h hg
    go_enter Try.func33, Try.ntmps33
    go_wp2_with (first | (go_at_call 84; refine Calls.mono (partsOk_any _ tn te s xs gs _ _ (H.out.below (by (try with_reducible refine bsz ?_); repeat (first | with_reducible exact Below.refl _ _ | ((with_reducible refine bpre ?_); (try simp only [Array.append_assoc]); repeat (first | with_reducible exact Pre.refl _ | with_reducible exact Pre.base _ _ | with_reducible refine Pre.cons _ ?_)) | with_reducible assumption | ((with_reducible refine bsetr ?_); rfl) | with_reducible refine Below.setCell ?_ (by simp <;> omega) _ | with_reducible refine bpl ?_ _ _ | with_reducible refine bal ?_ _ | with_reducible refine bdrew1 ?_ | with_reducible refine bdrew ?_ _))) (HG.out.below (by (try with_reducible refine bsz ?_); repeat (first | with_reducible exact Below.refl _ _ | ((with_reducible refine bpre ?_); (try simp only [Array.append_assoc]); repeat (first | with_reducible exact Pre.refl _ | with_reducible exact Pre.base _ _ | with_reducible refine Pre.cons _ ?_)) | with_reducible assumption | ((with_reducible refine bsetr ?_); rfl) | with_reducible refine Below.setCell ?_ (by simp <;> omega) _ | with_reducible refine bpl ?_ _ _ | with_reducible refine bal ?_ _ | with_reducible refine bdrew1 ?_ | with_reducible refine bdrew ?_ _))) he hl) ?_; rw [hT.out]; rintro e w1 ⟨rfl, hb⟩; obtain ⟨X, m, rfl⟩ := plsOf hb; clear hb))
    refine bodyPost_ret (v := .tuple #[.agg #[.int .i64 0, .int .u32 0, .int .i64 0, .slice none 0 0], .int .i64 T]) (by simp [results, Try.results33, go_sem, *]) rfl ?_
    exact sumRet_no HT.out.1 HT.out.2.1 HT.out.2.2 (by (try with_reducible refine bsz ?_); repeat (first | with_reducible exact Below.refl _ _ | ((with_reducible refine bpre ?_); (try simp only [Array.append_assoc]); repeat (first | with_reducible exact Pre.refl _ | with_reducible exact Pre.base _ _ | with_reducible refine Pre.cons _ ?_)) | with_reducible assumption | ((with_reducible refine bsetr ?_); rfl) | with_reducible refine Below.setCell ?_ (by simp <;> omega) _ | with_reducible refine bpl ?_ _ _ | with_reducible refine bal ?_ _ | with_reducible refine bdrew1 ?_ | with_reducible refine bdrew ?_ _)) rfl
  · have h0 : pkC tn te s xs gs = 0 := by simpa using hc
    have hs : sumOk tn te s xs = true ∧ forbC gs = 0 := by
      unfold pkC at h0
      split at h0
      · exact ⟨by assumption, h0⟩
      · omega
    have hgs := Lib.hid (forbC_ok hs.2).2
    have hfl : Hid (∀ d ∈ xs, 0 ≤ d.1.2.1 ∧ d.1.2.1 ≤ 5) := Lib.hid fun d hd => ((flV_iff _).1 (okT_iff.1 (sumOk_mem hs.1 hd)).1).2.1
    have hlx : xs.length ≤ 1048576 := Nat.le_trans (sumOk_iff.1 hs.1).2.2.1 (by decide)
    have eg : ∀ args w, (callFunc 87 args).run Try.prog w = .ok (.enter 87 args) w := enters_of Try.func87 (by kernel_rfl) rfl
    have HT : Hid (pkC tn te s xs gs = 0) := Lib.hid h0
    rw [h0]
    rw [show tdT 0 (tn, te) = (tn, te) from rfl, show tdS 0 s = s from rfl, show tdL 0 (wfL gs xs) = wfL gs xs from rfl]
    clear h0 h hg hs hc
    go_enter Try.func33, Try.ntmps33
    go_wp2_with (first | (go_at_call 84; refine Calls.mono (partsOk_any _ tn te s xs gs _ _ (H.out.below (by (try with_reducible refine bsz ?_); repeat (first | with_reducible exact Below.refl _ _ | ((with_reducible refine bpre ?_); (try simp only [Array.append_assoc]); repeat (first | with_reducible exact Pre.refl _ | with_reducible exact Pre.base _ _ | with_reducible refine Pre.cons _ ?_)) | with_reducible assumption | ((with_reducible refine bsetr ?_); rfl) | with_reducible refine Below.setCell ?_ (by simp <;> omega) _ | with_reducible refine bpl ?_ _ _ | with_reducible refine bal ?_ _ | with_reducible refine bdrew1 ?_ | with_reducible refine bdrew ?_ _))) (HG.out.below (by (try with_reducible refine bsz ?_); repeat (first | with_reducible exact Below.refl _ _ | ((with_reducible refine bpre ?_); (try simp only [Array.append_assoc]); repeat (first | with_reducible exact Pre.refl _ | with_reducible exact Pre.base _ _ | with_reducible refine Pre.cons _ ?_)) | with_reducible assumption | ((with_reducible refine bsetr ?_); rfl) | with_reducible refine Below.setCell ?_ (by simp <;> omega) _ | with_reducible refine bpl ?_ _ _ | with_reducible refine bal ?_ _ | with_reducible refine bdrew1 ?_ | with_reducible refine bdrew ?_ _))) he hl) ?_; rw [HT.out]; rintro e w1 ⟨rfl, hb⟩; obtain ⟨X, m, rfl⟩ := plsOf hb; clear hb))
    refine Calls.mono (cloneTerm_any _ xs _ (H.out.below (by (try with_reducible refine bsz ?_); repeat (first | with_reducible exact Below.refl _ _ | ((with_reducible refine bpre ?_); (try simp only [Array.append_assoc]); repeat (first | with_reducible exact Pre.refl _ | with_reducible exact Pre.base _ _ | with_reducible refine Pre.cons _ ?_)) | with_reducible assumption | ((with_reducible refine bsetr ?_); rfl) | with_reducible refine Below.setCell ?_ (by simp <;> omega) _ | with_reducible refine bpl ?_ _ _ | with_reducible refine bal ?_ _ | with_reducible refine bdrew1 ?_ | with_reducible refine bdrew ?_ _))) hlx) ?_
    rintro e0 w1 ⟨A2, cap2, F1, rfl, hO1, hb⟩
    have hb1 : Below w.heap.size w w1 := Below.trans (by (try with_reducible refine bsz ?_); repeat (first | with_reducible exact Below.refl _ _ | ((with_reducible refine bpre ?_); (try simp only [Array.append_assoc]); repeat (first | with_reducible exact Pre.refl _ | with_reducible exact Pre.base _ _ | with_reducible refine Pre.cons _ ?_)) | with_reducible assumption | ((with_reducible refine bsetr ?_); rfl) | with_reducible refine Below.setCell ?_ (by simp <;> omega) _ | with_reducible refine bpl ?_ _ _ | with_reducible refine bal ?_ _ | with_reducible refine bdrew1 ?_ | with_reducible refine bdrew ?_ _)) (hb.mono (by simp <;> omega))
    have hBw : w.heap.size + 1 + 1 + 1 ≤ w1.heap.size := by have := hb.size; simp at this; omega
    have hO1 : Own shTerm (w.heap.size + 1 + 1 + 1) w1 xs (.slice A2 xs.length cap2) F1 := hO1.below (by simp <;> omega) (Below.refl _ _)
    have k0 : w1.heap[w.heap.size]? = some (.cells #[.int .i64 tn, .int .u32 te, .int .i64 s, .slice A0 xs.length cap0] 28 (0, 0)) := bblk hb (by simp <;> omega) (by repeat (first | with_reducible assumption | with_reducible refine pls_block _ _ ?_ | with_reducible apply blkset2 | with_reducible apply blkset1 | ((with_reducible refine blksetN ?_ ?_ _); (focus (simp <;> omega))) | with_reducible exact blknew _ _ | ((with_reducible refine blknew' _ _ _ ?_); (simp <;> omega)) | with_reducible refine blkal ?_ _))
    have k1 : w1.heap[w.heap.size + 1]? = some (.cells #[.slice A1 gs.length cap1] 64 (0, 0)) := bblk hb (by simp <;> omega) (by repeat (first | with_reducible assumption | with_reducible refine pls_block _ _ ?_ | with_reducible apply blkset2 | with_reducible apply blkset1 | ((with_reducible refine blksetN ?_ ?_ _); (focus (simp <;> omega))) | with_reducible exact blknew _ _ | ((with_reducible refine blknew' _ _ _ ?_); (simp <;> omega)) | with_reducible refine blkal ?_ _))
    have k2 : w1.heap[w.heap.size + 1 + 1]? = some (.cells #[.int .i64 0, .int .u32 0, .int .i64 0, .slice none 0 0] 28 (0, 0)) := bblk hb (by simp <;> omega) (by repeat (first | with_reducible assumption | with_reducible refine pls_block _ _ ?_ | with_reducible apply blkset2 | with_reducible apply blkset1 | ((with_reducible refine blksetN ?_ ?_ _); (focus (simp <;> omega))) | with_reducible exact blknew _ _ | ((with_reducible refine blknew' _ _ _ ?_); (simp <;> omega)) | with_reducible refine blkal ?_ _))
    have K0 := Lib.hid k0
    have K1 := Lib.hid k1
    have K2 := Lib.hid k2
    have HO1 := Lib.hid hO1
    have HB1 := Lib.hid hb1
    clear hb hb1 k0 k1 k2 hO1
    go_wp2_with fail
    have HDEL : Calls Try.prog 85 #[.slice A2 xs.length cap2, .func (.func 87) #[] #[.pointer (some ⟨w.heap.size + 1, 0, none⟩)]] w1 (DelRet (w.heap.size + 1 + 1 + 1) w1 (wfL gs xs) A2 cap2) := delTerm_any (w.heap.size + 1 + 1 + 1) w1 xs A2 cap2 F1 _ #[.pointer (some ⟨w.heap.size + 1, 0, none⟩)] (wfP gs) HO1.out hlx hBw eg (fun W d hW hd => WithoutForbidden1 W (w.heap.size + 1) gs _ d (bblk hW (by omega) K1.out) (HG.out.below (HB1.out.trans (hW.mono (by omega)))) (hfl.out d hd) hl hgs.out)
    obtain ⟨L, hL⟩ : ∃ L : List shTerm.T, Hid (wfL gs xs = L) := ⟨_, Lib.hid rfl⟩
    rw [hL.out] at HDEL
    refine Calls.mono HDEL ?_
    clear HDEL
    rintro e0 w2 ⟨F2, rfl, hO2, hb⟩
    have hb2 : Below w.heap.size w w2 := HB1.out.trans (hb.mono (by omega))
    have k0 := bblk hb (by omega) K0.out
    have k2 := bblk hb (by omega) K2.out
    obtain ⟨N, hN⟩ : ∃ N : Nat, Hid (L.length = N) := ⟨_, Lib.hid rfl⟩
    rw [hN.out] at hO2 ⊢
    obtain ⟨⟨q0, q1, q2, q3⟩, _⟩ := blk4 k0
    obtain ⟨⟨r0, r1, r2, r3⟩, f0, f1, f2, f3⟩ := blk4 k2
    have y0 := blklt k0
    have y2 := blklt k2
    have HO2 := Lib.hid hO2
    have hge : Hid (∀ q ∈ F2, w.heap.size + 1 + 1 + 1 ≤ q) := Lib.hid hO2.ge
    clear hO2 hb k0 k2
    go_wp2_with fail
    refine bodyPost_ret (v := .tuple #[.agg #[.int .i64 tn, .int .u32 te, .int .i64 s, .slice A2 N cap2], .int .i64 0]) (by simp [results, Try.results33, go_sem, *]) rfl ⟨A2, cap2, F2, ?_, ?_, (by (try with_reducible refine bsz ?_); repeat (first | with_reducible exact Below.refl _ _ | ((with_reducible refine bpre ?_); (try simp only [Array.append_assoc]); repeat (first | with_reducible exact Pre.refl _ | with_reducible exact Pre.base _ _ | with_reducible refine Pre.cons _ ?_)) | with_reducible assumption | ((with_reducible refine bsetr ?_); rfl) | with_reducible refine Below.setCell ?_ (by simp <;> omega) _ | with_reducible refine bpl ?_ _ _ | with_reducible refine bal ?_ _ | with_reducible refine bdrew1 ?_ | with_reducible refine bdrew ?_ _))⟩
    · rw [hL.out]
      show _ = Ending.returned (.tuple #[.agg #[.int .i64 tn, .int .u32 te, .int .i64 s, .slice A2 L.length cap2], .int .i64 0])
      rw [hN.out]
    · rw [hL.out]
      show Own shTerm w.heap.size _ L (.slice A2 L.length cap2) F2
      rw [hN.out]
      refine HO2.out.move (by omega) fun q h1 _ => ?_
      have hne : q ≠ w.heap.size + 1 + 1 := by omega
      exact (Below.heap_setCell _ ⟨w.heap.size + 1 + 1, 3, none⟩ _ q hne).trans ((Below.heap_setCell _ ⟨w.heap.size + 1 + 1, 2, none⟩ _ q hne).trans ((Below.heap_setCell _ ⟨w.heap.size + 1 + 1, 1, none⟩ _ q hne).trans (Below.heap_setCell _ ⟨w.heap.size + 1 + 1, 0, none⟩ _ q hne)))
end Go.Proofs.Ytfdobpeekipafaa

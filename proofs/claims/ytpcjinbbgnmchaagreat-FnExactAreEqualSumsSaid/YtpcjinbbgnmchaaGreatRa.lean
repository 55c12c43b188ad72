/- A sum raised to a greater size: impl.RaiseSum. -/
import Derived.Test.YtpcjinbbgnmchaaGreatPw
import Derived.Test.YtpcjinbbgnmchaaGreatVn
import Derived.Test.YtpcjinbbgnmchaaGreatFd
namespace Go.Proofs.YtpcjinbbgnmchaaGreat
open Go.ChangeShapes Go.WideShapes Go.RowKit
set_option linter.unusedVariables false
set_option linter.unusedSimpArgs false
attribute [local irreducible] Calls
/-- What is told of each flag: the sum's value in it. -/
def rsD (T : List Trm) (h : Flg) : Int × Int := (vF (viD h) T).1
def rsZ (T : List Trm) (h : Flg) : Bool := (vF (viD h) T).2
def rsO (T : List Trm) (h : Flg) : Option (Int × Int) := vO (viD h) T
def rsC (tn te s : Int) (T : List Trm) (n : Int) : Int := if sumOk tn te s T then (if inB n s 5 then ovC tn.toNat te n.toNat (rsD T) (rsZ T) else 2) else 1
def rsL (tn te s : Int) (T : List Trm) (n : Int) : List Trm := tdL (rsC tn te s T n) (nzT (ovX (flagsF tn.toNat te n.toNat []) (rsD T)))
theorem rs_terms {tn te s : Int} {k m : Nat} {T : List Trm} {h : Flg} (hs : sumOk tn te s T = true) (hk : tn = k) (hsm : s ≤ m) (hm : m ≤ 5) (hkm : k ≤ m) (hk3 : k ≤ 3) (hh : h ∈ flagsF k te m []) :
    (∀ t ∈ T, inF (viD h t) ∧ inF t.2) ∧ ∀ t ∈ T, flV t.1 = true ∧ t.1.1 = h.1 ∧ t.1.2.1 ≤ h.2.1 := by
  obtain ⟨h1, h2, h3, h4⟩ := flagsF_mem hk3 hkm hm hh
  exact vi_terms hs h3 (by rw [h1, hk]) (by rw [h2]; exact hsm)
theorem rs_tr {tn te s : Int} {k m : Nat} {T : List Trm} (hs : sumOk tn te s T = true) (hk : tn = k) (hsm : s ≤ m) (hm : m ≤ 5) (hkm : k ≤ m) (hk3 : k ≤ 3) :
    ∀ h ∈ flagsF k te m [], Tr (rsO T h) (rsD T h) (rsZ T h) := fun h hh => vF_tr _ _ (rs_terms hs hk hsm hm hkm hk3 hh).1
theorem rs_sizes {tn te s : Int} {T : List Trm} (h : sumOk tn te s T = true) : ∃ k : Nat, tn = k ∧ k ≤ 3 ∧ (k : Int) ≤ s ∧ s ≤ 5 := by
  obtain ⟨h1, h2, h3, h4⟩ := sumOk_iff.1 h
  simp [grOk, spOk, inB] at h1 h2
  exact ⟨tn.toNat, by omega, by omega, by omega, by omega⟩
set_option maxHeartbeats 2000000 in
theorem raise1_any (w : World) (b ab : Nat) (g : Bool) (tn te s : Int) (T : List Trm) (v : Value) (h : Flg) (D : Trm → Int × Int) (hab : w.heap[ab]? = some (.cells #[.int .i64 tn, .int .u32 te, .int .i64 s, v] 34 (0, 0))) (hT : Lst shTerm w T v) (hl : T.length ≤ 1000) (hin : ∀ t ∈ T, inF (D t) ∧ inF t.2)
    (hdn : ∀ t ∈ T, ∀ W, Calls Tryz.prog 154 #[.agg #[.int .i64 t.1.1, .int .i64 t.1.2.1, .int .u32 t.1.2.2], .agg #[.int .i64 h.1, .int .i64 h.2.1, .int .u32 h.2.2]] W fun r w' => r = .returned (.agg #[.int .i64 (D t).1, .int .i64 (D t).2]) ∧ Below W.heap.size W w')
    (hc : w.cell? ⟨b, 0, none⟩ = some (.bool g)) (hf : w.frozen? ⟨b, 0, none⟩ = false) :
    Calls Tryz.prog 90 #[.pointer (some ⟨b, 0, none⟩), .agg #[.int .i64 h.1, .int .i64 h.2.1, .int .u32 h.2.2], .pointer (some ⟨ab, 0, none⟩)] w fun r w' => r = .returned (.agg #[.int .i64 (vF D T).1.1, .int .i64 (vF D T).1.2]) ∧ Fl b 0 w (g || (vF D T).2) w' := by
  have HT := Lib.hid hT
  have HIN := Lib.hid hin
  have HDN := Lib.hid hdn
  have HC := Lib.hid hc
  have HF := Lib.hid hf
  obtain ⟨A, cap, rfl, _, _⟩ := formTerm hT
  obtain ⟨a0, a1, a2, a3⟩ := blkc4 hab
  have yab := blklt hab
  have hbw := World.block_lt_of_cell? _ _ hc
  simp only at hbw
  clear hT hin hdn hab hc hf
  go_enter Tryz.func90, Tryz.ntmps90
  go_wp2_with fail
  refine Calls.mono (value_any _ b 0 g tn te s T _ h D (HT.out.below belA) hl HIN.out HDN.out (bkeep (show Below w.heap.size w _ from belA) HC.out) (bkeepf (show Below w.heap.size w _ from belA) (a := ⟨b, 0, none⟩) hbw HF.out)) ?_
  rintro e0 w1 ⟨rfl, hb⟩
  have hfl : Fl b 0 _ _ w1 := hb
  have kr : w1.heap[w.heap.size + 1]? = some (.cells #[.int .i64 0, .int .i64 0] 53 (0, 0)) := (hb.block _ (by simp)).trans (blkset (show _ = some (.cells #[.int .i64 0, .int .i64 0] 53 (0, 0)) from blkA) (by show w.heap.size + 1 ≠ b; omega) _)
  have HFL := Lib.hid (((Fl.start HC.out).below belA).trans hfl)
  obtain ⟨r0, r1, f0, f1⟩ := blk2 kr
  have yr := blklt kr
  clear hb hfl kr
  go_wp2_with fail
  refine bodyPost_ret (v := .agg #[.int .i64 (vF D T).1.1, .int .i64 (vF D T).1.2]) (by simp [results, Tryz.results90, go_sem, *]) rfl ⟨rfl, ?_⟩
  exact Below.setCell (Below.setCell HFL.out (by show w.heap.size ≤ w.heap.size + 1; omega) _) (by show w.heap.size ≤ w.heap.size + 1; omega) _
set_option maxHeartbeats 2000000 in
theorem RaiseSum_any (w : World) (tn te s : Int) (T : List Trm) (v : Value) (n : Int) (hT : Lst shTerm w T v) (he : 0 ≤ te ∧ te ≤ 4294967295) :
    Calls Tryz.prog 36 #[.agg #[.int .i64 tn, .int .u32 te, .int .i64 s, v], .int .i64 n] w (SumRet w.heap.size w (rsC tn te s T n) (tdT (rsC tn te s T n) (tn, te)) (tdS (rsC tn te s T n) n) (rsL tn te s T n)) := by
  have HT := Lib.hid hT
  have HE := Lib.hid he
  obtain ⟨A, cap, rfl, _, _, hoks, _⟩ := lstTerm hT
  have HOKS : Hid (∀ d ∈ T, okTerm d) := Lib.hid hoks
  clear hT hoks
  cases h1 : sumOk tn te s T
  · have hr : Hid (rsC tn te s T n = 1 ∧ rsL tn te s T n = []) := Lib.hid (by have : rsC tn te s T n = 1 := by simp [rsC, h1]
                                                                              exact ⟨this, by unfold rsL; rw [this]; rfl⟩)
    have H1 := Lib.hid h1
    clear h1 he
    go_enter Tryz.func36, Tryz.ntmps36
    go_wp2_with (first | (go_at_call 35; refine Calls.mono (ValidSum_any _ tn te s T _ (HT.out.below belA) HE.out) ?_; rw [H1.out]; rintro e w1 ⟨rfl, hb⟩; obtain ⟨X, m, rfl⟩ := plsOf hb; clear hb))
    refine bodyPost_ret (v := .tuple #[.agg #[.int .i64 0, .int .u32 0, .int .i64 0, .slice none 0 0], .int .i64 1]) (by simp [results, Tryz.results36, go_sem, *]) rfl ?_
    rw [hr.out.1, hr.out.2]
    exact sumRet_no rfl rfl rfl belA rfl
  have H1 := Lib.hid h1
  cases h2 : inB n s 5
  · have hr : Hid (rsC tn te s T n = 2 ∧ rsL tn te s T n = []) := Lib.hid (by have : rsC tn te s T n = 2 := by simp [rsC, h1, h2]
                                                                              exact ⟨this, by unfold rsL; rw [this]; rfl⟩)
    have HIB : Hid (∀ W, Calls Tryz.prog 59 #[.int .i64 n, .int .i64 s, .int .i64 5] W fun e w' => e = .returned (.bool false) ∧ W = w') := Lib.hid fun W => by
      have := in_any n s 5 W
      rwa [h2] at this
    clear h1 h2 he
    go_enter Tryz.func36, Tryz.ntmps36
    go_wp2_with (first | (go_at_call 35; refine Calls.mono (ValidSum_any _ tn te s T _ (HT.out.below belA) HE.out) ?_; rw [H1.out]; rintro e w1 ⟨rfl, hb⟩; obtain ⟨X, m, rfl⟩ := plsOf hb; clear hb) | (go_at_call 59; refine Calls.mono (HIB.out _) ?_; rintro e w1 ⟨rfl, rfl⟩))
    refine bodyPost_ret (v := .tuple #[.agg #[.int .i64 0, .int .u32 0, .int .i64 0, .slice none 0 0], .int .i64 2]) (by simp [results, Tryz.results36, go_sem, *]) rfl ?_
    rw [hr.out.1, hr.out.2]
    exact sumRet_no rfl rfl rfl belA rfl
  have HIB : Hid (∀ W, Calls Tryz.prog 59 #[.int .i64 n, .int .i64 s, .int .i64 5] W fun e w' => e = .returned (.bool true) ∧ W = w') := Lib.hid fun W => by
    have := in_any n s 5 W
    rwa [h2] at this
  obtain ⟨k, hk, hk3, hks, hs5⟩ := rs_sizes h1
  subst hk
  have hn : s ≤ n ∧ n ≤ 5 := by simpa [inB] using h2
  obtain ⟨mN, rfl⟩ : ∃ mN : Nat, n = mN := ⟨n.toNat, by omega⟩
  have hkm : k ≤ mN := by omega
  have hm5 : mN ≤ 5 := by omega
  have hr : Hid (rsC k te s T mN = ovC k te mN (rsD T) (rsZ T)) := Lib.hid (by simp only [rsC, h1, h2, if_true, Int.toNat_natCast])
  have hrl : Hid (rsL k te s T mN = tdL (ovC k te mN (rsD T) (rsZ T)) (nzT (ovX (flagsF k te mN []) (rsD T)))) := Lib.hid (by unfold rsL; rw [hr.out, Int.toNat_natCast, Int.toNat_natCast])
  have hl : T.length ≤ 64 := (sumOk_iff.1 h1).2.2.1
  have htm := Lib.hid (fun h hh => rs_terms (h := h) (te := te) h1 rfl hn.1 hm5 hkm hk3 hh)
  rw [hr.out, hrl.out]
  have eg : ∀ args w, (callFunc 90 args).run Tryz.prog w = .ok (.enter 90 args) w := enters_of Tryz.func90 (by kernel_rfl) rfl
  have hte := Lib.hid (fun (h : Flg) (hh : h ∈ flagsF k te mN []) => flagsF_mem hk3 hkm hm5 hh)
  have HOV : Hid (∀ W ab, Below w.heap.size w W → W.heap[ab]? = some (.cells #[.int .i64 k, .int .u32 te, .int .i64 s, .slice A T.length cap] 34 (0, 0)) → Calls Tryz.prog 41 #[.agg #[.int .i64 k, .int .u32 te], .int .i64 mN, .func (.func 90) #[] #[.pointer (some ⟨ab, 0, none⟩)]] W (SumRet W.heap.size W (ovC k te mN (rsD T) (rsZ T)) (tdT (ovC k te mN (rsD T) (rsZ T)) (k, te)) (tdS (ovC k te mN (rsD T) (rsZ T)) mN) (tdL (ovC k te mN (rsD T) (rsZ T)) (nzT (ovX (flagsF k te mN []) (rsD T)))))) := Lib.hid fun W ab hW hab => by
    refine overAll_any W k mN te 90 #[.pointer (some ⟨ab, 0, none⟩)] (rsD T) (rsZ T) hkm hm5 eg (fun h hh => inF_okB (vF_tr _ _ (htm.out h hh).1).1) (fun V b g h hh hV hb hc hf => ?_)
    obtain ⟨f1, f2, f3, f4⟩ := hte.out h hh
    obtain ⟨c1, c2⟩ := htm.out h hh
    refine raise1_any V b ab g k te s T _ h (viD h) (bblk hV (blklt hab) hab) ((HT.out.below hW).below hV) (by omega) c1 (fun t ht W => ?_) hc hf
    obtain ⟨a1, a2, a3⟩ := c2 t ht
    have := density_any W k mN h.2.2 t.1 hk3 hkm hm5 f4.2.2 a1 (HOKS.out t ht).1 (by rw [a2, f1]) (by rw [f2] at a3; exact a3)
    unfold viD
    rw [f1, f2]
    exact this
  clear h1 h2 he eg
  obtain ⟨C, hC, XL, hXL, NX, hNX⟩ : ∃ C, Hid (ovC k te mN (rsD T) (rsZ T) = C) ∧ ∃ XL : List Trm, Hid (tdL C (nzT (ovX (flagsF k te mN []) (rsD T))) = XL) ∧ ∃ NX : Nat, Hid (XL.length = NX) := ⟨_, Lib.hid rfl, _, Lib.hid rfl, _, Lib.hid rfl⟩
  rw [hC.out] at HOV ⊢
  rw [hXL.out] at HOV ⊢
  clear hr hrl
  go_enter Tryz.func36, Tryz.ntmps36
  go_wp2_with (first | (go_at_call 35; refine Calls.mono (ValidSum_any _ k te s T _ (HT.out.below belA) HE.out) ?_; rw [H1.out]; rintro e w1 ⟨rfl, hb⟩; obtain ⟨X, m, rfl⟩ := plsOf hb; clear hb) | (go_at_call 59; refine Calls.mono (HIB.out _) ?_; rintro e w1 ⟨rfl, rfl⟩))
  refine Calls.mono (HOV.out _ w.heap.size belA blkA) ?_
  rintro e0 w5 ⟨A5, cap5, F5, rfl, hO5, hb5⟩
  have kr : w5.heap[w.heap.size + 1]? = some (.cells #[.int .i64 0, .int .u32 0, .int .i64 0, .slice none 0 0] 34 (0, 0)) := bblk hb5 (by simp <;> omega) blkA
  have hbb : Below w.heap.size w w5 := Below.trans belA (hb5.mono (by simp <;> omega))
  replace hO5 := hO5.below (B' := w.heap.size + 2) (by simp <;> omega) (Below.refl _ _)
  rw [hNX.out] at hO5 ⊢
  have HO5 := Lib.hid hO5
  obtain ⟨⟨c50, c51, c52, c53⟩, f50, f51, f52, f53⟩ := blk4 kr
  have zz5 := blklt kr
  clear hO5 hb5 kr
  go_wp2_with fail
  refine bodyPost_ret (v := .tuple #[.agg #[.int .i64 (tdT C (k, te)).1, .int .u32 (tdT C (k, te)).2, .int .i64 (tdS C mN), .slice A5 NX cap5], .int .i64 C]) (by simp [results, Tryz.results36, go_sem, *]) rfl ?_
  refine ⟨A5, cap5, F5, ?_, ?_, ?_⟩
  · rw [hNX.out]
  · rw [hNX.out]
    refine HO5.out.move (by omega) fun q h1 _ => ?_
    have hne : q ≠ w.heap.size + 1 := by omega
    exact (Below.heap_setCell _ ⟨w.heap.size + 1, 3, none⟩ _ q hne).trans ((Below.heap_setCell _ ⟨w.heap.size + 1, 2, none⟩ _ q hne).trans ((Below.heap_setCell _ ⟨w.heap.size + 1, 1, none⟩ _ q hne).trans (Below.heap_setCell _ ⟨w.heap.size + 1, 0, none⟩ _ q hne)))
  · exact belA
end Go.Proofs.YtpcjinbbgnmchaaGreat

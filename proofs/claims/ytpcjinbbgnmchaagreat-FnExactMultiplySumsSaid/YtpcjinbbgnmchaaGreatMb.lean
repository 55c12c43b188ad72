/- The product of two sums: impl.MultiplySums. -/
import Derived.Test.YtpcjinbbgnmchaaGreatMa
import Derived.Test.YtpcjinbbgnmchaaGreatJf
import Derived.Test.YtpcjinbbgnmchaaGreatPv
import Derived.Test.YtpcjinbbgnmchaaGreatVr
namespace Go.Proofs.YtpcjinbbgnmchaaGreat
open Go.ChangeShapes Go.WideShapes Go.RowKit
set_option linter.unusedVariables false
set_option linter.unusedSimpArgs false
attribute [local irreducible] Calls
/-- Two flags side by side in a third one. -/
def mlJ (s s' : Int) (h : Flg) (x y : Trm) : Int × Int := jns (ptB h.1.toNat h.2.2 x.1) (ptB h.1.toNat h.2.2 y.1) h.1.toNat h.2.1.toNat (s.toNat - h.1.toNat) (s'.toNat - h.1.toNat)
def mlD (s s' : Int) (T U : List Trm) (h : Flg) : Int × Int := (mpF (mlJ s s' h) U T).1
def mlZ (s s' : Int) (T U : List Trm) (h : Flg) : Bool := (mpF (mlJ s s' h) U T).2
def mlO (s s' : Int) (T U : List Trm) (h : Flg) : Option (Int × Int) := moF (mlJ s s' h) U T
def msC (tn te s : Int) (T : List Trm) (tn' te' s' : Int) (U : List Trm) : Int := if sumOk tn te s T && sumOk tn' te' s' U then (if eq2 tn te tn' te' then (if s + s' - tn ≤ 5 then ovC tn.toNat te (s + s' - tn).toNat (mlD s s' T U) (mlZ s s' T U) else 2) else 4) else 1
def msL (tn te s : Int) (T : List Trm) (tn' te' s' : Int) (U : List Trm) : List Trm := tdL (msC tn te s T tn' te' s' U) (nzT (ovX (flagsF tn.toNat te (s + s' - tn).toNat []) (mlD s s' T U)))
def msS (tn te s : Int) (T : List Trm) (tn' te' s' : Int) (U : List Trm) : Int := tdS (msC tn te s T tn' te' s' U) (s + s' - tn)
theorem ms_no {tn te s : Int} {T : List Trm} {tn' te' s' : Int} {U : List Trm} {c : Int} (h : msC tn te s T tn' te' s' U = c) (hc : c ≠ 0) : msC tn te s T tn' te' s' U = c ∧ tdT (msC tn te s T tn' te' s' U) (tn, te) = (0, 0) ∧ msS tn te s T tn' te' s' U = 0 ∧ msL tn te s T tn' te' s' U = [] := by
  unfold msS msL
  rw [h]
  exact ⟨rfl, if_neg hc, if_neg hc, if_neg hc⟩
theorem ml_side {tn te s s' : Int} {T U : List Trm} {k m : Nat} {h : Flg} {x y : Trm} (h1 : sumOk tn te s T = true) (h2 : sumOk tn te s' U = true) (hk : tn = k) (hm : s + s' - k = m) (hm5 : m ≤ 5) (hk3 : k ≤ 3) (hks : (k : Int) ≤ s) (hks' : (k : Int) ≤ s') (hh : h ∈ flagsF k te m []) (hx : x ∈ T) (hy : y ∈ U) :
    h = ((k : Int), ((m : Int), h.2.2)) ∧ flV x.1 = true ∧ flV y.1 = true ∧ x.1.1 = k ∧ y.1.1 = k ∧ x.1.2.1 = ((k + (s.toNat - k) : Nat) : Int) ∧ y.1.2.1 = ((k + (s'.toNat - k) : Nat) : Int) ∧ k + (s.toNat - k) + (s'.toNat - k) ≤ m ∧ inF x.2 ∧ inF y.2 ∧ inF (mlJ s s' h x y) := by
  obtain ⟨e, he, rfl⟩ := List.mem_map.1 hh
  have a1 := okT_iff.1 (sumOk_mem h1 hx)
  have a2 := okT_iff.1 (sumOk_mem h2 hy)
  have b1 := fitsB_iff.1 a1.2.1
  have b2 := fitsB_iff.1 a2.2.1
  have hkq : k + (s.toNat - k) + (s'.toNat - k) ≤ m := by omega
  refine ⟨rfl, a1.1, a2.1, by rw [b1.2.1, hk], by rw [b2.2.1, hk], by rw [b1.1]; omega, by rw [b2.1]; omega, hkq, inF_of_ok a1.2.2.2.1, inF_of_ok a2.2.2.2.1, ?_⟩
  have hbd := jn_bd hm5 hk3 hkq (ptB k e x.1) (ptB k e y.1)
  exact ((jns_vl hm5 hk3 hkq (ptB k e x.1) (ptB k e y.1)).small (by omega) (by omega) (by omega)).2
theorem ml_terms {tn te s s' : Int} {T U : List Trm} {k m : Nat} {h : Flg} (h1 : sumOk tn te s T = true) (h2 : sumOk tn te s' U = true) (hk : tn = k) (hm : s + s' - k = m) (hm5 : m ≤ 5) (hk3 : k ≤ 3) (hks : (k : Int) ≤ s) (hks' : (k : Int) ≤ s') (hh : h ∈ flagsF k te m []) :
    ∀ x ∈ T, inF x.2 ∧ ∀ y ∈ U, inF y.2 ∧ inF (mlJ s s' h x y) := fun x hx =>
  ⟨inF_of_ok (okT_iff.1 (sumOk_mem h1 hx)).2.2.2.1, fun y hy => by
    obtain ⟨_, _, _, _, _, _, _, _, _, h3, h4⟩ := ml_side h1 h2 hk hm hm5 hk3 hks hks' hh hx hy
    exact ⟨h3, h4⟩⟩
theorem ml_tr {tn te s s' : Int} {T U : List Trm} {k m : Nat} (h1 : sumOk tn te s T = true) (h2 : sumOk tn te s' U = true) (hk : tn = k) (hm : s + s' - k = m) (hm5 : m ≤ 5) (hk3 : k ≤ 3) (hks : (k : Int) ≤ s) (hks' : (k : Int) ≤ s') :
    ∀ h ∈ flagsF k te m [], Tr (mlO s s' T U h) (mlD s s' T U h) (mlZ s s' T U h) := fun h hh => mpF_tr (ml_terms h1 h2 hk hm hm5 hk3 hks hks' hh)
set_option maxHeartbeats 4000000 in
theorem MultiplySums_any (w : World) (tn te s : Int) (T : List Trm) (v : Value) (tn' te' s' : Int) (U : List Trm) (u : Value) (hT : Lst shTerm w T v) (hU : Lst shTerm w U u) (he : 0 ≤ te ∧ te ≤ 4294967295) (he' : 0 ≤ te' ∧ te' ≤ 4294967295) :
    Calls Tryz.prog 14 #[.agg #[.int .i64 tn, .int .u32 te, .int .i64 s, v], .agg #[.int .i64 tn', .int .u32 te', .int .i64 s', u]] w (SumRet w.heap.size w (msC tn te s T tn' te' s' U) (tdT (msC tn te s T tn' te' s' U) (tn, te)) (msS tn te s T tn' te' s' U) (msL tn te s T tn' te' s' U)) := by
  have HT := Lib.hid hT
  have HU := Lib.hid hU
  have HE := Lib.hid he
  have HE' := Lib.hid he'
  obtain ⟨A, cap, rfl, _, _, hoks, _⟩ := lstTerm hT
  obtain ⟨A', cap', rfl, _, _, hoks', _⟩ := lstTerm hU
  have HOKS : Hid (∀ d ∈ T, okTerm d) := Lib.hid hoks
  have HOKS' : Hid (∀ d ∈ U, okTerm d) := Lib.hid hoks'
  obtain ⟨sz, hsz⟩ : ∃ sz, IntKind.i64.wrap (IntKind.i64.wrap (s + s') - tn) = sz := ⟨_, rfl⟩
  clear hT hU hoks hoks'
  cases h1 : sumOk tn te s T
  · have hr := Lib.hid (ms_no (tn := tn) (te := te) (s := s) (T := T) (tn' := tn') (te' := te') (s' := s') (U := U) (c := 1) (by simp [msC, h1]) (by decide))
    have H1 := Lib.hid h1
    clear h1 he he'
    go_enter Tryz.func14, Tryz.ntmps14
    go_wp2_with (first | (go_at_call 35; refine Calls.mono (ValidSum_any _ tn te s T _ (HT.out.below belA) HE.out) ?_; rw [H1.out]; rintro e w1 ⟨rfl, hb⟩; obtain ⟨X, m, rfl⟩ := plsOf hb; clear hb))
    refine bodyPost_ret (v := .tuple #[.agg #[.int .i64 0, .int .u32 0, .int .i64 0, .slice none 0 0], .int .i64 1]) (by simp [results, Tryz.results14, go_sem, *]) rfl ?_
    exact sumRet_no hr.out.2.1 hr.out.2.2.1 hr.out.2.2.2 belA hr.out.1
  have H1 := Lib.hid h1
  cases h2 : sumOk tn' te' s' U
  · have hr := Lib.hid (ms_no (tn := tn) (te := te) (s := s) (T := T) (tn' := tn') (te' := te') (s' := s') (U := U) (c := 1) (by simp [msC, h2]) (by decide))
    have H2 := Lib.hid h2
    clear h1 h2 he he'
    go_enter Tryz.func14, Tryz.ntmps14
    go_wp2_with (first | (go_at_call 35; refine Calls.mono (ValidSum_any _ tn te s T _ (HT.out.below belA) HE.out) ?_; rw [H1.out]; rintro e w1 ⟨rfl, hb⟩; obtain ⟨X, m, rfl⟩ := plsOf hb; clear hb) | (go_at_call 35; refine Calls.mono (ValidSum_any _ tn' te' s' U _ (HU.out.below belA) HE'.out) ?_; rw [H2.out]; rintro e w1 ⟨rfl, hb⟩; obtain ⟨X, m, rfl⟩ := plsOf hb; clear hb))
    refine bodyPost_ret (v := .tuple #[.agg #[.int .i64 0, .int .u32 0, .int .i64 0, .slice none 0 0], .int .i64 1]) (by simp [results, Tryz.results14, go_sem, *]) rfl ?_
    exact sumRet_no hr.out.2.1 hr.out.2.2.1 hr.out.2.2.2 belA hr.out.1
  have H2 := Lib.hid h2
  cases h3 : eq2 tn te tn' te'
  · have hr := Lib.hid (ms_no (tn := tn) (te := te) (s := s) (T := T) (tn' := tn') (te' := te') (s' := s') (U := U) (c := 4) (by simp [msC, h1, h2, h3]) (by decide))
    clear h1 h2 he he'
    go_enter Tryz.func14, Tryz.ntmps14
    go_wp2_with (first | (go_at_call 35; refine Calls.mono (ValidSum_any _ tn te s T _ (HT.out.below belA) HE.out) ?_; rw [H1.out]; rintro e w1 ⟨rfl, hb⟩; obtain ⟨X, m, rfl⟩ := plsOf hb; clear hb) | (go_at_call 35; refine Calls.mono (ValidSum_any _ tn' te' s' U _ (HU.out.below belA) HE'.out) ?_; rw [H2.out]; rintro e w1 ⟨rfl, hb⟩; obtain ⟨X, m, rfl⟩ := plsOf hb; clear hb))
    refine bodyPost_ret (v := .tuple #[.agg #[.int .i64 0, .int .u32 0, .int .i64 0, .slice none 0 0], .int .i64 4]) (by simp [results, Tryz.results14, go_sem, *]) rfl ?_
    exact sumRet_no hr.out.2.1 hr.out.2.2.1 hr.out.2.2.2 belA hr.out.1
  have h3' : tn' = tn ∧ te' = te := by simp [eq2] at h3; exact ⟨h3.1.symm, h3.2.symm⟩
  obtain ⟨rfl, rfl⟩ := h3'
  clear h3
  obtain ⟨k, hk, hk3, hks, hs5⟩ := rs_sizes h1
  obtain ⟨k', hk', _, hks', hs5'⟩ := rs_sizes h2
  subst hk
  have e : k' = k := by omega
  subst e
  have h3 : eq2 (k' : Int) te' (k' : Int) te' = true := by simp [eq2]
  have hsz2 : sz = s + s' - k' := by
    have e1 : IntKind.i64.wrap (s + s') = s + s' := IntWalk.i64_in _ (by omega)
    have e2 : IntKind.i64.wrap (s + s' - k') = s + s' - k' := IntWalk.i64_in _ (by omega)
    rw [← hsz, e1, e2]
  by_cases h4 : s + s' - k' ≤ 5
  rotate_left
  · have hr := Lib.hid (ms_no (tn := k') (te := te') (s := s) (T := T) (tn' := k') (te' := te') (s' := s') (U := U) (c := 2) (by simp only [msC, h1, h2, h3, if_neg h4]; rfl) (by decide))
    have h5 : (5 : Int) < sz := by omega
    have h6 : (5 : Int) < s + s' - k' := by omega
    clear h1 h2 he he' hsz2
    go_enter Tryz.func14, Tryz.ntmps14
    go_wp2_with (first | (go_at_call 35; refine Calls.mono (ValidSum_any _ k' te' s T _ (HT.out.below belA) HE.out) ?_; rw [H1.out]; rintro e w1 ⟨rfl, hb⟩; obtain ⟨X, m, rfl⟩ := plsOf hb; clear hb) | (go_at_call 35; refine Calls.mono (ValidSum_any _ k' te' s' U _ (HU.out.below belA) HE'.out) ?_; rw [H2.out]; rintro e w1 ⟨rfl, hb⟩; obtain ⟨X, m, rfl⟩ := plsOf hb; clear hb))
    refine bodyPost_ret (v := .tuple #[.agg #[.int .i64 0, .int .u32 0, .int .i64 0, .slice none 0 0], .int .i64 2]) (by simp [results, Tryz.results14, go_sem, *]) rfl ?_
    exact sumRet_no hr.out.2.1 hr.out.2.2.1 hr.out.2.2.2 belA hr.out.1
  obtain ⟨mN, hm⟩ : ∃ mN : Nat, s + s' - (k' : Int) = mN := ⟨(s + s' - k').toNat, by omega⟩
  have hkm : k' ≤ mN := by omega
  have hm5 : mN ≤ 5 := by omega
  have hr : Hid (msC k' te' s T k' te' s' U = ovC k' te' mN (mlD s s' T U) (mlZ s s' T U)) := Lib.hid (by unfold msC; rw [h1, h2, h3, hm, if_pos (show (true && true) = true from rfl), if_pos rfl, if_pos (by omega), Int.toNat_natCast, Int.toNat_natCast])
  have hrl : Hid (msL k' te' s T k' te' s' U = tdL (ovC k' te' mN (mlD s s' T U) (mlZ s s' T U)) (nzT (ovX (flagsF k' te' mN []) (mlD s s' T U)))) := Lib.hid (by unfold msL; rw [hr.out, hm, Int.toNat_natCast, Int.toNat_natCast])
  have hrs : Hid (msS k' te' s T k' te' s' U = tdS (ovC k' te' mN (mlD s s' T U) (mlZ s s' T U)) mN) := Lib.hid (by unfold msS; rw [hr.out, hm])
  have hl : T.length ≤ 64 := (sumOk_iff.1 h1).2.2.1
  have hl' : U.length ≤ 64 := (sumOk_iff.1 h2).2.2.1
  rw [hr.out, hrl.out, hrs.out]
  have eg : ∀ args w, (callFunc 42 args).run Tryz.prog w = .ok (.enter 42 args) w := enters_of Tryz.func42 (by kernel_rfl) rfl
  have htr := Lib.hid (ml_tr (te := te') h1 h2 rfl hm hm5 hk3 hks hks')
  have htm := Lib.hid (fun h hh => ml_terms (h := h) (te := te') h1 h2 rfl hm hm5 hk3 hks hks' hh)
  have hsd := Lib.hid (fun h x y hh hx hy => ml_side (h := h) (x := x) (y := y) (te := te') h1 h2 rfl hm hm5 hk3 hks hks' hh hx hy)
  have HOV : Hid (∀ W ab bb, Below w.heap.size w W → W.heap[ab]? = some (.cells #[.int .i64 k', .int .u32 te', .int .i64 s, .slice A T.length cap] 34 (0, 0)) → W.heap[bb]? = some (.cells #[.int .i64 k', .int .u32 te', .int .i64 s', .slice A' U.length cap'] 34 (0, 0)) → Calls Tryz.prog 41 #[.agg #[.int .i64 k', .int .u32 te'], .int .i64 mN, .func (.func 42) #[] #[.pointer (some ⟨ab, 0, none⟩), .pointer (some ⟨bb, 0, none⟩)]] W (SumRet W.heap.size W (ovC k' te' mN (mlD s s' T U) (mlZ s s' T U)) (tdT (ovC k' te' mN (mlD s s' T U) (mlZ s s' T U)) (k', te')) (tdS (ovC k' te' mN (mlD s s' T U) (mlZ s s' T U)) mN) (tdL (ovC k' te' mN (mlD s s' T U) (mlZ s s' T U)) (nzT (ovX (flagsF k' te' mN []) (mlD s s' T U)))))) := Lib.hid fun W ab bb hW hab hbb => by
    refine overAll_any W k' mN te' 42 #[.pointer (some ⟨ab, 0, none⟩), .pointer (some ⟨bb, 0, none⟩)] (mlD s s' T U) (mlZ s s' T U) hkm hm5 eg (fun h hh => inF_okB (htr.out h hh).1) (fun V b g h hh hV hb hc hf => ?_)
    refine mult1_any V b ab bb g k' te' s k' te' s' T U _ _ h (mlJ s s' h) (bblk hV (blklt hab) hab) (bblk hV (blklt hbb) hbb) ((HT.out.below hW).below hV) ((HU.out.below hW).below hV) (by omega) (by omega) (htm.out h hh) (fun x hx y hy W => ?_) hc hf
    obtain ⟨c1, c2, c3, c4, c5, c6, c7, c8, _⟩ := hsd.out h x y hh hx hy
    have hj := joint_any W k' mN (s.toNat - k') (s'.toNat - k') h.2.2 x.1 y.1 hk3 hm5 c8 c2 (HOKS.out x hx).1 c4 c6 c3 (HOKS'.out y hy).1 c5 c7
    rw [c1]
    exact hj
  clear h1 h2 he he' eg
  obtain ⟨C, hC, XL, hXL, NX, hNX⟩ : ∃ C, Hid (ovC k' te' mN (mlD s s' T U) (mlZ s s' T U) = C) ∧ ∃ XL : List Trm, Hid (tdL C (nzT (ovX (flagsF k' te' mN []) (mlD s s' T U))) = XL) ∧ ∃ NX : Nat, Hid (XL.length = NX) := ⟨_, Lib.hid rfl, _, Lib.hid rfl, _, Lib.hid rfl⟩
  rw [hC.out] at HOV ⊢
  rw [hXL.out] at HOV ⊢
  have hsz3 : sz = mN := by omega
  have h5 : ¬ (5 : Int) < mN := by omega
  clear hr hrl hrs hsz2 h4 hsz3
  go_enter Tryz.func14, Tryz.ntmps14
  go_wp2_with (first | (go_at_call 35; refine Calls.mono (ValidSum_any _ k' te' s T _ (HT.out.below belA) HE.out) ?_; rw [H1.out]; rintro e w1 ⟨rfl, hb⟩; obtain ⟨X, m, rfl⟩ := plsOf hb; clear hb) | (go_at_call 35; refine Calls.mono (ValidSum_any _ k' te' s' U _ (HU.out.below belA) HE'.out) ?_; rw [H2.out]; rintro e w1 ⟨rfl, hb⟩; obtain ⟨X, m, rfl⟩ := plsOf hb; clear hb))
  refine Calls.mono (HOV.out _ w.heap.size (w.heap.size + 1) belA blkA blkA) ?_
  rintro e0 w5 ⟨A5, cap5, F5, rfl, hO5, hb5⟩
  have kr : w5.heap[w.heap.size + 1 + 1]? = some (.cells #[.int .i64 0, .int .u32 0, .int .i64 0, .slice none 0 0] 34 (0, 0)) := bblk hb5 (by simp <;> omega) blkA
  have hbb : Below w.heap.size w w5 := Below.trans belA (hb5.mono (by simp <;> omega))
  replace hO5 := hO5.below (B' := w.heap.size + 3) (by simp <;> omega) (Below.refl _ _)
  rw [hNX.out] at hO5 ⊢
  have HO5 := Lib.hid hO5
  obtain ⟨⟨c50, c51, c52, c53⟩, f50, f51, f52, f53⟩ := blk4 kr
  have zz5 := blklt kr
  clear hO5 hb5 kr
  go_wp2_with fail
  refine bodyPost_ret (v := .tuple #[.agg #[.int .i64 (tdT C (k', te')).1, .int .u32 (tdT C (k', te')).2, .int .i64 (tdS C mN), .slice A5 NX cap5], .int .i64 C]) (by simp [results, Tryz.results14, go_sem, *]) rfl ?_
  refine ⟨A5, cap5, F5, ?_, ?_, ?_⟩
  · rw [hNX.out]
  · rw [hNX.out]
    refine HO5.out.move (by omega) fun q h1 _ => ?_
    have hne : q ≠ w.heap.size + 1 + 1 := by omega
    exact (Below.heap_setCell _ ⟨w.heap.size + 1 + 1, 3, none⟩ _ q hne).trans ((Below.heap_setCell _ ⟨w.heap.size + 1 + 1, 2, none⟩ _ q hne).trans ((Below.heap_setCell _ ⟨w.heap.size + 1 + 1, 1, none⟩ _ q hne).trans (Below.heap_setCell _ ⟨w.heap.size + 1 + 1, 0, none⟩ _ q hne)))
  · exact belA
end Go.Proofs.YtpcjinbbgnmchaaGreat

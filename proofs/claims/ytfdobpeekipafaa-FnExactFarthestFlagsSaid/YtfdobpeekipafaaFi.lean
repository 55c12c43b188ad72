/- spec.FarthestFlags. -/
import Derived.Test.YtfdobpeekipafaaFf
import Derived.Test.YtfdobpeekipafaaTi
import Derived.Deep.CutRange
namespace Go.Proofs.Ytfdobpeekipafaa
open Go.ChangeShapes Go.WideShapes Go.RowKit
set_option linter.unusedVariables false
set_option linter.unusedSimpArgs false
attribute [local irreducible] Calls
theorem soppM_any (x : Int × Int) (w : World) (hx : inM x) : Calls Try.prog 74 #[.agg #[.int .i64 x.1, .int .i64 x.2]] w fun e w' => e = .returned (.agg #[.int .i64 (-x.1), .int .i64 x.2]) ∧ Below w.heap.size w w' := by
  obtain ⟨b1, b2, b3, b4⟩ := hx
  go_enter Try.func74, Try.ntmps74
  go_wp2_with fail
  exact bodyPost_ret (v := .agg #[.int .i64 (-x.1), .int .i64 x.2]) (by simp [results, Try.results74, go_sem]) rfl ⟨rfl, (by (try with_reducible refine bsz ?_); repeat (first | with_reducible exact Below.refl _ _ | ((with_reducible refine bpre ?_); (try simp only [Array.append_assoc]); repeat (first | with_reducible exact Pre.refl _ | with_reducible exact Pre.base _ _ | with_reducible refine Pre.cons _ ?_)) | with_reducible assumption | ((with_reducible refine bsetr ?_); rfl) | with_reducible refine Below.setCell ?_ (by simp <;> omega) _ | with_reducible refine bpl ?_ _ _ | with_reducible refine bal ?_ _ | with_reducible refine bdrew1 ?_ | with_reducible refine bdrew ?_ _))⟩
theorem scompare_any (x y : Int × Int) (w : World) (hx : inM x) (hy : inM y) : Calls Try.prog 75 #[.agg #[.int .i64 x.1, .int .i64 x.2], .agg #[.int .i64 y.1, .int .i64 y.2]] w fun e w' => e = .returned (.int .i64 (cmpS (x.1 * y.2) (y.1 * x.2))) ∧ Below w.heap.size w w' := by
  obtain ⟨b1, b2⟩ := hx.prod hy
  obtain ⟨b3, b4⟩ := hy.prod hx
  by_cases h1 : x.1 * y.2 < y.1 * x.2
  · have hr : Hid (cmpS (x.1 * y.2) (y.1 * x.2) = -1) := Lib.hid (if_pos h1)
    go_enter Try.func75, Try.ntmps75
    go_wp2_with fail
    exact bodyPost_ret (v := .int .i64 (-1)) (by simp [results, Try.results75, go_sem]) rfl ⟨by rw [hr.out], (by (try with_reducible refine bsz ?_); repeat (first | with_reducible exact Below.refl _ _ | ((with_reducible refine bpre ?_); (try simp only [Array.append_assoc]); repeat (first | with_reducible exact Pre.refl _ | with_reducible exact Pre.base _ _ | with_reducible refine Pre.cons _ ?_)) | with_reducible assumption | ((with_reducible refine bsetr ?_); rfl) | with_reducible refine Below.setCell ?_ (by simp <;> omega) _ | with_reducible refine bpl ?_ _ _ | with_reducible refine bal ?_ _ | with_reducible refine bdrew1 ?_ | with_reducible refine bdrew ?_ _))⟩
  · by_cases h2 : y.1 * x.2 < x.1 * y.2
    · have hr : Hid (cmpS (x.1 * y.2) (y.1 * x.2) = 1) := Lib.hid (by simp [cmpS, h1, h2])
      go_enter Try.func75, Try.ntmps75
      go_wp2_with fail
      exact bodyPost_ret (v := .int .i64 1) (by simp [results, Try.results75, go_sem]) rfl ⟨by rw [hr.out], (by (try with_reducible refine bsz ?_); repeat (first | with_reducible exact Below.refl _ _ | ((with_reducible refine bpre ?_); (try simp only [Array.append_assoc]); repeat (first | with_reducible exact Pre.refl _ | with_reducible exact Pre.base _ _ | with_reducible refine Pre.cons _ ?_)) | with_reducible assumption | ((with_reducible refine bsetr ?_); rfl) | with_reducible refine Below.setCell ?_ (by simp <;> omega) _ | with_reducible refine bpl ?_ _ _ | with_reducible refine bal ?_ _ | with_reducible refine bdrew1 ?_ | with_reducible refine bdrew ?_ _))⟩
    · have hr : Hid (cmpS (x.1 * y.2) (y.1 * x.2) = 0) := Lib.hid (by simp [cmpS, h1, h2])
      go_enter Try.func75, Try.ntmps75
      go_wp2_with fail
      exact bodyPost_ret (v := .int .i64 0) (by simp [results, Try.results75, go_sem]) rfl ⟨by rw [hr.out], (by (try with_reducible refine bsz ?_); repeat (first | with_reducible exact Below.refl _ _ | ((with_reducible refine bpre ?_); (try simp only [Array.append_assoc]); repeat (first | with_reducible exact Pre.refl _ | with_reducible exact Pre.base _ _ | with_reducible refine Pre.cons _ ?_)) | with_reducible assumption | ((with_reducible refine bsetr ?_); rfl) | with_reducible refine Below.setCell ?_ (by simp <;> omega) _ | with_reducible refine bpl ?_ _ _ | with_reducible refine bal ?_ _ | with_reducible refine bdrew1 ?_ | with_reducible refine bdrew ?_ _))⟩
set_option maxHeartbeats 4000000 in
theorem sFarthestFlags_any (w : World) (f g : Flg) (hfo : okFlag f) (hgo : okFlag g) :
    Calls Try.prog 26 #[.agg #[.int .i64 f.1, .int .i64 f.2.1, .int .u32 f.2.2], .agg #[.int .i64 g.1, .int .i64 g.2.1, .int .u32 g.2.2]] w fun e w' => e = .returned (.tuple #[.agg #[.int .i64 (faR f g).1, .int .i64 (faR f g).2], .int .i64 (faC f g)]) ∧ Below w.heap.size w w' := by
  have HTP := Lib.hid fun w => l04Types_any w f g hfo hgo
  have HFO := Lib.hid hfo
  have HGO := Lib.hid hgo
  cases h1 : (flV f && flV g)
  · have hc : Hid (faC f g = 1) := Lib.hid (by simp [faC, h1])
    have hr : Hid (faR f g = (0, 0)) := Lib.hid (by unfold faR; rw [hc.out]; rfl)
    have H1 : Hid (tpC f g = 1) := Lib.hid (by unfold tpC; rw [h1]; rfl)
    clear h1 hfo hgo
    go_enter Try.func26, Try.ntmps26
    go_wp2_with (first | (go_at_call 56; refine Calls.mono (HTP.out _) ?_; rw [H1.out]; rintro e w1 ⟨rfl, hb⟩; obtain ⟨X, m, rfl⟩ := plsOf hb; clear hb))
    exact bodyPost_ret (v := .tuple #[.agg #[.int .i64 0, .int .i64 0], .int .i64 1]) (by simp [results, Try.results26, go_sem]) rfl ⟨by rw [hr.out, hc.out], (by (try with_reducible refine bsz ?_); repeat (first | with_reducible exact Below.refl _ _ | ((with_reducible refine bpre ?_); (try simp only [Array.append_assoc]); repeat (first | with_reducible exact Pre.refl _ | with_reducible exact Pre.base _ _ | with_reducible refine Pre.cons _ ?_)) | with_reducible assumption | ((with_reducible refine bsetr ?_); rfl) | with_reducible refine Below.setCell ?_ (by simp <;> omega) _ | with_reducible refine bpl ?_ _ _ | with_reducible refine bal ?_ _ | with_reducible refine bdrew1 ?_ | with_reducible refine bdrew ?_ _))⟩
  obtain ⟨hvf, hvg⟩ : flV f = true ∧ flV g = true := by simpa using h1
  have hff := (flV_iff _).1 hvf
  have hgg := (flV_iff _).1 hvg
  have hf5 : 0 ≤ f.1 ∧ f.1 ≤ 5 := by omega
  have hg5 : 0 ≤ g.1 ∧ g.1 ≤ 5 := by omega
  have hc0 : faC f g = (if tyNe f g then 4 else if 4 < f.2.1 ∨ 4 < g.2.1 then 2 else 0) := by unfold faC; rw [if_pos h1]
  cases h2 : tyNe f g
  rotate_left
  · have hc : Hid (faC f g = 4) := Lib.hid (by rw [hc0, h2]; rfl)
    have hr : Hid (faR f g = (0, 0)) := Lib.hid (by unfold faR; rw [hc.out]; rfl)
    have H2 : Hid (tpC f g = 4) := Lib.hid (by unfold tpC; rw [h1, h2]; rfl)
    clear h1 h2 hc0 hvf hvg hff hgg hfo hgo
    go_enter Try.func26, Try.ntmps26
    go_wp2_with (first | (go_at_call 56; refine Calls.mono (HTP.out _) ?_; rw [H2.out]; rintro e w1 ⟨rfl, hb⟩; obtain ⟨X, m, rfl⟩ := plsOf hb; clear hb))
    exact bodyPost_ret (v := .tuple #[.agg #[.int .i64 0, .int .i64 0], .int .i64 4]) (by simp [results, Try.results26, go_sem]) rfl ⟨by rw [hr.out, hc.out], (by (try with_reducible refine bsz ?_); repeat (first | with_reducible exact Below.refl _ _ | ((with_reducible refine bpre ?_); (try simp only [Array.append_assoc]); repeat (first | with_reducible exact Pre.refl _ | with_reducible exact Pre.base _ _ | with_reducible refine Pre.cons _ ?_)) | with_reducible assumption | ((with_reducible refine bsetr ?_); rfl) | with_reducible refine Below.setCell ?_ (by simp <;> omega) _ | with_reducible refine bpl ?_ _ _ | with_reducible refine bal ?_ _ | with_reducible refine bdrew1 ?_ | with_reducible refine bdrew ?_ _))⟩
  have H2 : Hid (tpC f g = 0) := Lib.hid (by unfold tpC; rw [h1, h2]; rfl)
  by_cases hA : 4 < f.2.1
  · have hc : Hid (faC f g = 2) := Lib.hid (by rw [hc0, h2, if_neg (by decide), if_pos (Or.inl hA)])
    have hr : Hid (faR f g = (0, 0)) := Lib.hid (by unfold faR; rw [hc.out]; rfl)
    clear h1 h2 hc0 hvf hvg hff hgg hfo hgo
    go_enter Try.func26, Try.ntmps26
    go_wp2_with (first | (go_at_call 56; refine Calls.mono (HTP.out _) ?_; rw [H2.out]; rintro e w1 ⟨rfl, hb⟩; obtain ⟨X, m, rfl⟩ := plsOf hb; clear hb))
    exact bodyPost_ret (v := .tuple #[.agg #[.int .i64 0, .int .i64 0], .int .i64 2]) (by simp [results, Try.results26, go_sem]) rfl ⟨by rw [hr.out, hc.out], (by (try with_reducible refine bsz ?_); repeat (first | with_reducible exact Below.refl _ _ | ((with_reducible refine bpre ?_); (try simp only [Array.append_assoc]); repeat (first | with_reducible exact Pre.refl _ | with_reducible exact Pre.base _ _ | with_reducible refine Pre.cons _ ?_)) | with_reducible assumption | ((with_reducible refine bsetr ?_); rfl) | with_reducible refine Below.setCell ?_ (by simp <;> omega) _ | with_reducible refine bpl ?_ _ _ | with_reducible refine bal ?_ _ | with_reducible refine bdrew1 ?_ | with_reducible refine bdrew ?_ _))⟩
  by_cases hB : 4 < g.2.1
  · have hc : Hid (faC f g = 2) := Lib.hid (by rw [hc0, h2, if_neg (by decide), if_pos (Or.inr hB)])
    have hr : Hid (faR f g = (0, 0)) := Lib.hid (by unfold faR; rw [hc.out]; rfl)
    clear h1 h2 hc0 hvf hvg hff hgg hfo hgo
    go_enter Try.func26, Try.ntmps26
    go_wp2_with (first | (go_at_call 56; refine Calls.mono (HTP.out _) ?_; rw [H2.out]; rintro e w1 ⟨rfl, hb⟩; obtain ⟨X, m, rfl⟩ := plsOf hb; clear hb))
    exact bodyPost_ret (v := .tuple #[.agg #[.int .i64 0, .int .i64 0], .int .i64 2]) (by simp [results, Try.results26, go_sem]) rfl ⟨by rw [hr.out, hc.out], (by (try with_reducible refine bsz ?_); repeat (first | with_reducible exact Below.refl _ _ | ((with_reducible refine bpre ?_); (try simp only [Array.append_assoc]); repeat (first | with_reducible exact Pre.refl _ | with_reducible exact Pre.base _ _ | with_reducible refine Pre.cons _ ?_)) | with_reducible assumption | ((with_reducible refine bsetr ?_); rfl) | with_reducible refine Below.setCell ?_ (by simp <;> omega) _ | with_reducible refine bpl ?_ _ _ | with_reducible refine bal ?_ _ | with_reducible refine bdrew1 ?_ | with_reducible refine bdrew ?_ _))⟩
  have hc : Hid (faC f g = 0) := Lib.hid (by rw [hc0, h2, if_neg (by decide), if_neg (by omega)])
  obtain ⟨kN, hk⟩ := Int.eq_ofNat_of_zero_le hff.1.1
  obtain ⟨nN, hn⟩ := Int.eq_ofNat_of_zero_le hgg.2.1.1
  obtain ⟨mN, hm⟩ := Int.eq_ofNat_of_zero_le hff.2.1.1
  have hty : f.1 = g.1 ∧ tyE f = tyE g := by rw [tyNe_eq] at h2; simpa [eq2] using h2
  have hk3 : kN ≤ 3 := by omega
  have hkm : kN ≤ mN := by omega
  have hkn : kN ≤ nN := by omega
  have hm4 : mN ≤ 4 := by omega
  have hn4 : nN ≤ 4 := by omega
  have hk4 : kN ≤ 4 := by omega
  have hk5 : kN ≤ 5 := by omega
  have hmt : f.2.1.toNat = mN := by rw [hm]; rfl
  have hnt : g.2.1.toNat = nN := by rw [hn]; rfl
  have hkt : f.1.toNat = kN := by rw [hk]; rfl
  obtain ⟨TE, hTE⟩ : ∃ TE, Hid (tyE f = TE) := ⟨_, Lib.hid rfl⟩
  have HTY : Hid (∀ w, Calls Try.prog 49 #[.agg #[.int .i64 f.1, .int .i64 f.2.1, .int .u32 f.2.2]] w fun e0 w' => e0 = .returned (.agg #[.int .i64 kN, .int .u32 TE]) ∧ Below w.heap.size w w') := Lib.hid fun w => by
    have := l03Type_i w f hf5
    rw [hTE.out, hk] at this
    rw [hk]
    exact this
  obtain ⟨GL, hGL, N, hN, hLn, hNl⟩ : ∃ GL : List Flg, Hid (flagsF kN TE 4 [] = GL) ∧ ∃ N : Nat, Hid (GL.length = N) ∧ Hid ((flagsL kN TE 4 []).length = N) ∧ N ≤ 1024 :=
    ⟨_, Lib.hid rfl, _, Lib.hid rfl, Lib.hid (List.length_map _).symm, by rw [show (flagsF kN TE 4 []).length = (flagsL kN TE 4 []).length from List.length_map _]; exact flagsL_len kN TE 4 (by omega) []⟩
  have hmem : Hid (∀ x ∈ GL, x.1 = kN ∧ x.2.1 = (4 : Nat) ∧ flV x = true ∧ okFlag x) := Lib.hid fun x hx => flagsF_mem hk3 hk4 (by omega) (by rw [hGL.out]; exact hx)
  have hr : Hid (faR f g = faF kN f g GL) := Lib.hid (by unfold faR; rw [if_pos hc.out, hkt, hTE.out, hGL.out])
  have hstep : Hid (∀ (a : Nat) (m : Int × Int) (x : Flg), GL[a]? = some x → FaI kN f g GL a m → inF (dns kN 4 x.2.2 f) ∧ inF (dns kN 4 x.2.2 g) ∧ ∃ d, subO (dns kN 4 x.2.2 f) (dns kN 4 x.2.2 g) = some d ∧ inM d ∧ FaI kN f g GL (a + 1) (faB m d)) := Lib.hid fun a m x hx hI => by
    obtain ⟨v1, b1, c1⟩ := dns_vl (k := kN) (n := 4) (e := x.2.2) (f := f) hk3 (by omega) (by omega) (by omega)
    obtain ⟨v2, b2, c2⟩ := dns_vl (k := kN) (n := 4) (e := x.2.2) (f := g) hk3 (by omega) (by omega) (by omega)
    obtain ⟨d, e1, i1, i2, e2⟩ := fa_sub v1 v2 b1 b2 c1 c2
    exact ⟨i1, i2, d, e1, e2, hI.step hx e1 e2⟩
  have HD1 : Hid (∀ (x : Flg), x ∈ GL → ∀ w, Calls Try.prog 50 #[.agg #[.int .i64 f.1, .int .i64 f.2.1, .int .u32 f.2.2], .agg #[.int .i64 x.1, .int .i64 x.2.1, .int .u32 x.2.2]] w fun r w' => r = .returned (.agg #[.int .i64 (dns kN 4 x.2.2 f).1, .int .i64 (dns kN 4 x.2.2 f).2]) ∧ Below w.heap.size w w') := Lib.hid fun x hx w => by
    obtain ⟨m1, m2, m3, m4⟩ := hmem.out x hx
    have := l04Density_any w kN 4 x.2.2 f hk3 hk4 (by omega) m4.2.2 hvf hfo (by omega) (by omega)
    rw [m1, m2]
    exact this
  have HD2 : Hid (∀ (x : Flg), x ∈ GL → ∀ w, Calls Try.prog 50 #[.agg #[.int .i64 g.1, .int .i64 g.2.1, .int .u32 g.2.2], .agg #[.int .i64 x.1, .int .i64 x.2.1, .int .u32 x.2.2]] w fun r w' => r = .returned (.agg #[.int .i64 (dns kN 4 x.2.2 g).1, .int .i64 (dns kN 4 x.2.2 g).2]) ∧ Below w.heap.size w w') := Lib.hid fun x hx w => by
    obtain ⟨m1, m2, m3, m4⟩ := hmem.out x hx
    have := l04Density_any w kN 4 x.2.2 g hk3 hk4 (by omega) m4.2.2 hvg hgo (by omega) (by omega)
    rw [m1, m2]
    exact this
  have HA : Hid (∀ w v, Lst shGr w [] v → Calls Try.prog 72 #[.agg #[.int .i64 kN, .int .u32 TE], .int .i64 4, v] w (FlsRet w.heap.size w GL)) := Lib.hid fun w v h => by
    have hlt := onE_lt f.2.2 (L := seqI kN) (by rw [seqI_len]; exact hk5)
    have e : tyE f = onE f.2.2 (seqI kN) := by unfold tyE; rw [hkt]
    rw [seqI_len, ← e, hTE.out] at hlt
    have := l03All_any w kN 4 TE [] v h hk3 hk4 (by omega) (by simp) (by simp) hlt.1 hlt.2
    rw [hGL.out] at this
    exact this
  have hA' : f.2.1 ≤ 4 := by omega
  have hB' : g.2.1 ≤ 4 := by omega
  clear h1 h2 hc0 hvf hvg hff hgg hfo hgo hk hn hm hty hmt hnt hkt
  go_enter Try.func26, Try.ntmps26
  go_wp2_with (first | (go_at_call 56; refine Calls.mono (HTP.out _) ?_; rw [H2.out]; rintro e w1 ⟨rfl, hb⟩; obtain ⟨X, m, rfl⟩ := plsOf hb; clear hb) | (go_at_call 49; refine Calls.mono (HTY.out _) ?_; rintro e w1 ⟨rfl, hb⟩; obtain ⟨X1, m1, rfl⟩ := plsOf hb; clear hb))
  refine Calls.mono (HA.out _ _ (Own.nil shGr 0 _ 0 (Nat.zero_le _) _).lst) ?_
  rintro e0 w1 ⟨A1, cap1, F1, rfl, hO1, hb⟩
  rw [show List.length (α := shFlag.T) GL = N from hN.out] at hO1 ⊢
  have hbl : Below w.heap.size w w1 := Below.trans (by (try with_reducible refine bsz ?_); repeat (first | with_reducible exact Below.refl _ _ | ((with_reducible refine bpre ?_); (try simp only [Array.append_assoc]); repeat (first | with_reducible exact Pre.refl _ | with_reducible exact Pre.base _ _ | with_reducible refine Pre.cons _ ?_)) | with_reducible assumption | ((with_reducible refine bsetr ?_); rfl) | with_reducible refine Below.setCell ?_ (by simp <;> omega) _ | with_reducible refine bpl ?_ _ _ | with_reducible refine bal ?_ _ | with_reducible refine bdrew1 ?_ | with_reducible refine bdrew ?_ _)) (hb.mono (by simp <;> omega))
  have k0 : w1.heap[w.heap.size]? = some (.cells #[.int .i64 f.1, .int .i64 f.2.1, .int .u32 f.2.2] 41 (0, 0)) := bblk hb (by simp <;> omega) (by repeat (first | with_reducible assumption | with_reducible refine pls_block _ _ ?_ | with_reducible apply blkset2 | with_reducible apply blkset1 | ((with_reducible refine blksetN ?_ ?_ _); (focus (simp <;> omega))) | with_reducible exact blknew _ _ | ((with_reducible refine blknew' _ _ _ ?_); (simp <;> omega)) | with_reducible refine blkal ?_ _))
  have k1 : w1.heap[w.heap.size + 1]? = some (.cells #[.int .i64 g.1, .int .i64 g.2.1, .int .u32 g.2.2] 41 (0, 0)) := bblk hb (by simp <;> omega) (by repeat (first | with_reducible assumption | with_reducible refine pls_block _ _ ?_ | with_reducible apply blkset2 | with_reducible apply blkset1 | ((with_reducible refine blksetN ?_ ?_ _); (focus (simp <;> omega))) | with_reducible exact blknew _ _ | ((with_reducible refine blknew' _ _ _ ?_); (simp <;> omega)) | with_reducible refine blkal ?_ _))
  have k2 : w1.heap[w.heap.size + 1 + 1]? = some (.cells #[.int .i64 0, .int .i64 0] 47 (0, 0)) := bblk hb (by simp <;> omega) (by repeat (first | with_reducible assumption | with_reducible refine pls_block _ _ ?_ | with_reducible apply blkset2 | with_reducible apply blkset1 | ((with_reducible refine blksetN ?_ ?_ _); (focus (simp <;> omega))) | with_reducible exact blknew _ _ | ((with_reducible refine blknew' _ _ _ ?_); (simp <;> omega)) | with_reducible refine blkal ?_ _))
  have HB1 := Lib.hid hbl
  have K0 := Lib.hid k0
  have K1 := Lib.hid k1
  have K2 := Lib.hid k2
  have y2 := blklt k2
  obtain ⟨r0, r1, r2, r3⟩ := blk2 k2
  have HO1 := Lib.hid (show Own shFlag 0 w1 GL (.slice A1 N cap1) F1 from hO1.below (Nat.zero_le _) (Below.refl _ _))
  clear hb hO1 hbl k0 k1 k2
  go_wp2_with fail
  refine Calls.mono (sZero_any _) ?_
  rintro e0 w2 ⟨rfl, hb⟩
  have hbl : Below w1.heap.size w1 w2 := Below.trans (Below.refl _ _) (hb.mono (by simp <;> omega))
  have K02 := Lib.hid (bblk hbl (blklt K0.out) K0.out)
  have K12 := Lib.hid (bblk hbl (blklt K1.out) K1.out)
  have K22 := Lib.hid (bblk hbl (blklt K2.out) K2.out)
  have HO2 := Lib.hid (HO1.out.below (Nat.le_refl _) hbl)
  have HB2 := Lib.hid (HB1.out.trans (hbl.mono HB1.out.size))
  have hz2 : w.heap.size + 1 + 1 < w2.heap.size := blklt K22.out
  have hF2 : Hid (∀ b ∈ F1, b < w2.heap.size) := Lib.hid fun b hb => HO2.out.lt b hb
  clear hb hbl
  go_wp2_with fail
  go_loopw [9] (fun i wr => ∃ (a : Nat) (m : Int × Int), a ≤ N ∧ i = .int .i64 a ∧ wr.heap[w.heap.size]? = some (.cells #[.int .i64 f.1, .int .i64 f.2.1, .int .u32 f.2.2] 41 (0, 0)) ∧ wr.heap[w.heap.size + 1]? = some (.cells #[.int .i64 g.1, .int .i64 g.2.1, .int .u32 g.2.2] 41 (0, 0)) ∧ wr.heap[w.heap.size + 1 + 1]? = some (.cells #[.int .i64 0, .int .i64 0] 47 (0, 0)) ∧ wr.heap[w2.heap.size]? = some (.cells #[.int .i64 m.1, .int .i64 m.2] 47 (0, 0)) ∧ Hid (Own shFlag 0 wr GL (.slice A1 N cap1) F1) ∧ Hid (FaI kN f g GL a m) ∧ Below w.heap.size w wr) (fun i _ => N - (intOf i).toNat)
  case atStart =>
    have hb2 := HB2.out
    have k02 := K02.out
    have k12 := K12.out
    have k22 := K22.out
    exact ⟨0, (0, 1), Nat.zero_le _, rfl, (by repeat (first | with_reducible assumption | with_reducible refine pls_block _ _ ?_ | with_reducible apply blkset2 | with_reducible apply blkset1 | ((with_reducible refine blksetN ?_ ?_ _); (focus (simp <;> omega))) | with_reducible exact blknew _ _ | ((with_reducible refine blknew' _ _ _ ?_); (simp <;> omega)) | with_reducible refine blkal ?_ _)), (by repeat (first | with_reducible assumption | with_reducible refine pls_block _ _ ?_ | with_reducible apply blkset2 | with_reducible apply blkset1 | ((with_reducible refine blksetN ?_ ?_ _); (focus (simp <;> omega))) | with_reducible exact blknew _ _ | ((with_reducible refine blknew' _ _ _ ?_); (simp <;> omega)) | with_reducible refine blkal ?_ _)), (by repeat (first | with_reducible assumption | with_reducible refine pls_block _ _ ?_ | with_reducible apply blkset2 | with_reducible apply blkset1 | ((with_reducible refine blksetN ?_ ?_ _); (focus (simp <;> omega))) | with_reducible exact blknew _ _ | ((with_reducible refine blknew' _ _ _ ?_); (simp <;> omega)) | with_reducible refine blkal ?_ _)), (by repeat (first | with_reducible assumption | with_reducible refine pls_block _ _ ?_ | with_reducible apply blkset2 | with_reducible apply blkset1 | ((with_reducible refine blksetN ?_ ?_ _); (focus (simp <;> omega))) | with_reducible exact blknew _ _ | ((with_reducible refine blknew' _ _ _ ?_); (simp <;> omega)) | with_reducible refine blkal ?_ _)), Lib.hid (HO2.out.below (Nat.le_refl _) (by (try with_reducible refine bsz ?_); repeat (first | with_reducible exact Below.refl _ _ | ((with_reducible refine bpre ?_); (try simp only [Array.append_assoc]); repeat (first | with_reducible exact Pre.refl _ | with_reducible exact Pre.base _ _ | with_reducible refine Pre.cons _ ?_)) | with_reducible assumption | ((with_reducible refine bsetr ?_); rfl) | with_reducible refine Below.setCell ?_ (by simp <;> omega) _ | with_reducible refine bpl ?_ _ _ | with_reducible refine bal ?_ _ | with_reducible refine bdrew1 ?_ | with_reducible refine bdrew ?_ _))), Lib.hid (FaI.start _ _ _ _), (by (try with_reducible refine bsz ?_); repeat (first | with_reducible exact Below.refl _ _ | ((with_reducible refine bpre ?_); (try simp only [Array.append_assoc]); repeat (first | with_reducible exact Pre.refl _ | with_reducible exact Pre.base _ _ | with_reducible refine Pre.cons _ ?_)) | with_reducible assumption | ((with_reducible refine bsetr ?_); rfl) | with_reducible refine Below.setCell ?_ (by simp <;> omega) _ | with_reducible refine bpl ?_ _ _ | with_reducible refine bal ?_ _ | with_reducible refine bdrew1 ?_ | with_reducible refine bdrew ?_ _))⟩
  case round =>
    obtain ⟨a, m, ha, rfl, b0, b1, b2, b4, hG, hI, hB⟩ := hrel
    obtain ⟨p0, p1, p2⟩ := blkc3 b0
    obtain ⟨q0, q1, q2⟩ := blkc3 b1
    obtain ⟨o0, o1, _, _⟩ := blk2 b4
    have y0 := blklt b0
    have y1 := blklt b1
    have y4 := blklt b4
    have B0 := Lib.hid b0
    have B1 := Lib.hid b1
    have B2 := Lib.hid b2
    have B4 := Lib.hid b4
    by_cases hlt : a < N
    · clear b0 b1 b2 b4
      have hk8 : (a : Int) < (N : Int) := by omega
      obtain ⟨_, _, hv, _, _, hoks, hel⟩ := lstFlag hG.out.lst
      injection hv with e1 e2 e3
      obtain ⟨bl, off, e4, hel⟩ := hel (by omega)
      rw [← e1] at e4
      subst e4
      obtain ⟨x, hx, hok, c0, c1, c2⟩ := hel a (by omega)
      have zb := World.block_lt_of_cell? _ _ c0
      simp only at zb
      have hxm := Lib.hid (List.mem_of_getElem? hx)
      obtain ⟨i1, i2, d, e5, e6, hI'⟩ := hstep.out a m x hx hI.out
      have hI1 := Lib.hid i1
      have hI2 := Lib.hid i2
      have hDM := Lib.hid e6
      have hMM := Lib.hid hI.out.2
      have hE5 := Lib.hid e5
      have hI' := Lib.hid hI'
      obtain ⟨X1, hX1⟩ : ∃ X1 : Int × Int, Hid (dns kN 4 x.2.2 f = X1) := ⟨_, Lib.hid rfl⟩
      obtain ⟨X2, hX2⟩ : ∃ X2 : Int × Int, Hid (dns kN 4 x.2.2 g = X2) := ⟨_, Lib.hid rfl⟩
      have HDx1 := Lib.hid (HD1.out x hxm.out)
      have HDx2 := Lib.hid (HD2.out x hxm.out)
      rw [hX1.out] at hI1 hE5 HDx1
      rw [hX2.out] at hI2 hE5 HDx2
      have HC : Hid (∀ w, Calls Try.prog 75 #[.agg #[.int .i64 (absI d.1), .int .i64 d.2], .agg #[.int .i64 m.1, .int .i64 m.2]] w fun e w' => e = .returned (.int .i64 (cmpS (absI d.1 * m.2) (m.1 * d.2))) ∧ Below w.heap.size w w') := Lib.hid fun w => scompare_any (absF d) m w (absF_in hDM.out) hMM.out
      obtain ⟨cv, hcv⟩ : ∃ c, Hid (cmpS (absI d.1 * m.2) (m.1 * d.2) = c) := ⟨_, Lib.hid rfl⟩
      rw [hcv.out] at HC
      have hfb : Hid (faB m d = if 0 < cv then (absI d.1, d.2) else m) := Lib.hid (by rw [← hcv.out]; rfl)
      clear hel hoks hx hok e1 e2 e3 i1 i2 e5 e6
      obtain ⟨W0, rfl⟩ : ∃ z, z = wr := ⟨_, rfl⟩
      have HKP : Hid (∀ W w' : World, Below W.heap.size W w' → (fun w' : World => w'.cell? ⟨bl, off + a * 3, none⟩ = some (.int .i64 x.1) ∧ w'.cell? ⟨bl, off + a * 3 + 1, none⟩ = some (.int .i64 x.2.1) ∧ w'.cell? ⟨bl, off + a * 3 + 2, none⟩ = some (.int .u32 x.2.2) ∧ w'.cell? ⟨w.heap.size, 0, none⟩ = some (.int .i64 f.1) ∧ w'.cell? ⟨w.heap.size, 1, none⟩ = some (.int .i64 f.2.1) ∧ w'.cell? ⟨w.heap.size, 2, none⟩ = some (.int .u32 f.2.2) ∧ w'.cell? ⟨w.heap.size + 1, 0, none⟩ = some (.int .i64 g.1) ∧ w'.cell? ⟨w.heap.size + 1, 1, none⟩ = some (.int .i64 g.2.1) ∧ w'.cell? ⟨w.heap.size + 1, 2, none⟩ = some (.int .u32 g.2.2)) W → (fun w' : World => w'.cell? ⟨bl, off + a * 3, none⟩ = some (.int .i64 x.1) ∧ w'.cell? ⟨bl, off + a * 3 + 1, none⟩ = some (.int .i64 x.2.1) ∧ w'.cell? ⟨bl, off + a * 3 + 2, none⟩ = some (.int .u32 x.2.2) ∧ w'.cell? ⟨w.heap.size, 0, none⟩ = some (.int .i64 f.1) ∧ w'.cell? ⟨w.heap.size, 1, none⟩ = some (.int .i64 f.2.1) ∧ w'.cell? ⟨w.heap.size, 2, none⟩ = some (.int .u32 f.2.2) ∧ w'.cell? ⟨w.heap.size + 1, 0, none⟩ = some (.int .i64 g.1) ∧ w'.cell? ⟨w.heap.size + 1, 1, none⟩ = some (.int .i64 g.2.1) ∧ w'.cell? ⟨w.heap.size + 1, 2, none⟩ = some (.int .u32 g.2.2)) w') := Lib.hid fun W w' hb h => ⟨bkeep hb h.1, bkeep hb h.2.1, bkeep hb h.2.2.1, bkeep hb h.2.2.2.1, bkeep hb h.2.2.2.2.1, bkeep hb h.2.2.2.2.2.1, bkeep hb h.2.2.2.2.2.2.1, bkeep hb h.2.2.2.2.2.2.2.1, bkeep hb h.2.2.2.2.2.2.2.2⟩
      go_upto_region 11 with fail
      go_cut [10, 11] from 35 to 66 (fun s10 s11 wx => ∃ g10 : Nat, s10 = .pointer (some ⟨g10, 0, none⟩) ∧ s11 = .int .i64 0 ∧ wx.heap[g10]? = some (.cells #[.int .i64 d.1, .int .i64 d.2] 47 (0, 0)) ∧ Below W0.heap.size W0 wx ∧ W0.heap.size ≤ g10)
      case first =>
        (refine wp_region_held_drew (S := (fun w' => w'.cell? ⟨bl, off + a * 3, none⟩ = some (.int .i64 x.1) ∧ w'.cell? ⟨bl, off + a * 3 + 1, none⟩ = some (.int .i64 x.2.1) ∧ w'.cell? ⟨bl, off + a * 3 + 2, none⟩ = some (.int .u32 x.2.2) ∧ w'.cell? ⟨w.heap.size, 0, none⟩ = some (.int .i64 f.1) ∧ w'.cell? ⟨w.heap.size, 1, none⟩ = some (.int .i64 f.2.1) ∧ w'.cell? ⟨w.heap.size, 2, none⟩ = some (.int .u32 f.2.2) ∧ w'.cell? ⟨w.heap.size + 1, 0, none⟩ = some (.int .i64 g.1) ∧ w'.cell? ⟨w.heap.size + 1, 1, none⟩ = some (.int .i64 g.2.1) ∧ w'.cell? ⟨w.heap.size + 1, 2, none⟩ = some (.int .u32 g.2.2))) (by kernel_rfl) ?_ (fun hHeld => ?_); (focus (first | exact hS | (simp [*, go_sem]; done) | fail)); refine rg_take 0 (some 42) (v := ?_) rfl (by kernel_rfl) (by kernel_rfl) (by kernel_rfl) (by kernel_rfl) (fun _ _ _ h => h) (Or.inl ⟨by kernel_rfl, ?_⟩) (by assumption) ?_; rotate_left; (focus (intro w' hSw; (try dsimp only at hSw); go_simp; (try with_reducible rfl))); (try simp only [Act.put, List.setIfInBounds_toArray, List.set_cons_zero, List.set_cons_succ]); refine rg_take 1 (some 43) (v := ?_) rfl (by kernel_rfl) (by kernel_rfl) (by kernel_rfl) (by kernel_rfl) (fun _ _ _ h => h) (Or.inl ⟨by kernel_rfl, ?_⟩) (by assumption) ?_; rotate_left; (focus (intro w' hSw; (try dsimp only at hSw); go_simp; (try with_reducible rfl))); (try simp only [Act.put, List.setIfInBounds_toArray, List.set_cons_zero, List.set_cons_succ]); refine rg_take 2 (some 44) (v := ?_) rfl (by kernel_rfl) (by kernel_rfl) (by kernel_rfl) (by kernel_rfl) (fun _ _ _ h => h) (Or.inl ⟨by kernel_rfl, ?_⟩) (by assumption) ?_; rotate_left; (focus (intro w' hSw; (try dsimp only at hSw); go_simp; (try with_reducible rfl))); (try simp only [Act.put, List.setIfInBounds_toArray, List.set_cons_zero, List.set_cons_succ]); refine rg_take 3 (some 45) (v := ?_) rfl (by kernel_rfl) (by kernel_rfl) (by kernel_rfl) (by kernel_rfl) (fun _ _ _ h => h) (Or.inl ⟨by kernel_rfl, ?_⟩) (by assumption) ?_; rotate_left; (focus (intro w' hSw; (try dsimp only at hSw); go_simp; (try with_reducible rfl))); (try simp only [Act.put, List.setIfInBounds_toArray, List.set_cons_zero, List.set_cons_succ]); refine rg_take 4 (some 46) (v := ?_) rfl (by kernel_rfl) (by kernel_rfl) (by kernel_rfl) (by kernel_rfl) (fun _ _ _ h => h) (Or.inl ⟨by kernel_rfl, ?_⟩) (by assumption) ?_; rotate_left; (focus (intro w' hSw; (try dsimp only at hSw); go_simp; (try with_reducible rfl))); (try simp only [Act.put, List.setIfInBounds_toArray, List.set_cons_zero, List.set_cons_succ]); refine rg_take 6 (some 48) (v := ?_) rfl (by kernel_rfl) (by kernel_rfl) (by kernel_rfl) (by kernel_rfl) (fun _ _ _ h => h) (Or.inl ⟨by kernel_rfl, ?_⟩) (by assumption) ?_; rotate_left; (focus (intro w' hSw; (try dsimp only at hSw); go_simp; (try with_reducible rfl))); (try simp only [Act.put, List.setIfInBounds_toArray, List.set_cons_zero, List.set_cons_succ]); refine rg_take 7 (some 49) (v := ?_) rfl (by kernel_rfl) (by kernel_rfl) (by kernel_rfl) (by kernel_rfl) (fun _ _ _ h => h) (Or.inl ⟨by kernel_rfl, ?_⟩) (by assumption) ?_; rotate_left; (focus (intro w' hSw; (try dsimp only at hSw); go_simp; (try with_reducible rfl))); (try simp only [Act.put, List.setIfInBounds_toArray, List.set_cons_zero, List.set_cons_succ]); refine rg_take 8 (some 50) (v := ?_) rfl (by kernel_rfl) (by kernel_rfl) (by kernel_rfl) (by kernel_rfl) (fun _ _ _ h => h) (Or.inl ⟨by kernel_rfl, ?_⟩) (by assumption) ?_; rotate_left; (focus (intro w' hSw; (try dsimp only at hSw); go_simp; (try with_reducible rfl))); (try simp only [Act.put, List.setIfInBounds_toArray, List.set_cons_zero, List.set_cons_succ]); refine rg_take 9 (some 51) (v := ?_) rfl (by kernel_rfl) (by kernel_rfl) (by kernel_rfl) (by kernel_rfl) (fun _ _ _ h => h) (Or.inl ⟨by kernel_rfl, ?_⟩) (by assumption) ?_; rotate_left; (focus (intro w' hSw; (try dsimp only at hSw); go_simp; (try with_reducible rfl))); (try simp only [Act.put, List.setIfInBounds_toArray, List.set_cons_zero, List.set_cons_succ]); refine rg_take 10 (some 52) (v := ?_) rfl (by kernel_rfl) (by kernel_rfl) (by kernel_rfl) (by kernel_rfl) (fun _ _ _ h => h) (Or.inl ⟨by kernel_rfl, ?_⟩) (by assumption) ?_; rotate_left; (focus (intro w' hSw; (try dsimp only at hSw); go_simp; (try with_reducible rfl))); (try simp only [Act.put, List.setIfInBounds_toArray, List.set_cons_zero, List.set_cons_succ]); refine wpAnyH_ready (rs := [5, 16]) (by kernel_rfl) (by simp) ?_; refine AllReadyH.cons rfl (fun K hK => ?_) (AllReadyH.cons rfl (fun K hK => ?_) AllReadyH.nil); (focus (go_simp; (go_at_call 50; refine Calls.mono (HDx1.out _) ?_; rintro e0 w3 ⟨rfl, hb⟩; have hS := HKP.out _ _ hb hHeld; have HB3 := Lib.hid (show Below W0.heap.size W0 w3 from Below.trans (by (try with_reducible refine bsz ?_); repeat (first | with_reducible exact Below.refl _ _ | ((with_reducible refine bpre ?_); (try simp only [Array.append_assoc]); repeat (first | with_reducible exact Pre.refl _ | with_reducible exact Pre.base _ _ | with_reducible refine Pre.cons _ ?_)) | with_reducible assumption | ((with_reducible refine bsetr ?_); rfl) | with_reducible refine Below.setCell ?_ (by simp <;> omega) _ | with_reducible refine bpl ?_ _ _ | with_reducible refine bal ?_ _ | with_reducible refine bdrew1 ?_ | with_reducible refine bdrew ?_ _)) (hb.mono (by first | omega | (simp <;> omega)))); (try (have kq := bblk hb (blklt kp) kp; clear kp; have kp := kq; clear kq)); have hz3 := HB3.out.size; clear hb); go_wp2_with fail; refine hK.out _ _ ?_ (fun hHeld => ?_); (focus (first | exact hS | (simp [*, go_sem]; done) | fail)); clear hK K; (try simp only [Act.put, List.setIfInBounds_toArray, List.set_cons_zero, List.set_cons_succ]); refine wpAnyH_ready (rs := [11, 16]) (by kernel_rfl) (by simp) ?_; refine AllReadyH.cons rfl (fun K hK => ?_) (AllReadyH.cons rfl (fun K hK => ?_) AllReadyH.nil); (focus (go_simp; (go_at_call 50; refine Calls.mono (HDx2.out _) ?_; rintro e0 w4 ⟨rfl, hb⟩; have hS := HKP.out _ _ hb hHeld; have hb3 := HB3.out; have HB4 := Lib.hid (show Below W0.heap.size W0 w4 from Below.trans (by (try with_reducible refine bsz ?_); repeat (first | with_reducible exact Below.refl _ _ | ((with_reducible refine bpre ?_); (try simp only [Array.append_assoc]); repeat (first | with_reducible exact Pre.refl _ | with_reducible exact Pre.base _ _ | with_reducible refine Pre.cons _ ?_)) | with_reducible assumption | ((with_reducible refine bsetr ?_); rfl) | with_reducible refine Below.setCell ?_ (by simp <;> omega) _ | with_reducible refine bpl ?_ _ _ | with_reducible refine bal ?_ _ | with_reducible refine bdrew1 ?_ | with_reducible refine bdrew ?_ _)) (hb.mono (by first | omega | (simp <;> omega)))); (try (have kq := bblk hb (blklt kp) kp; clear kp; have kp := kq; clear kq)); have hz4 := HB4.out.size; clear hb hb3); go_wp2_with fail; refine hK.out _ _ ?_ (fun hHeld => ?_); (focus (first | exact hS | (simp [*, go_sem]; done) | fail)); clear hK K; (try simp only [Act.put, List.setIfInBounds_toArray, List.set_cons_zero, List.set_cons_succ]); refine wpAnyH_ready (rs := [12, 16]) (by kernel_rfl) (by simp) ?_; refine AllReadyH.cons rfl (fun K hK => ?_) (AllReadyH.cons rfl (fun K hK => ?_) AllReadyH.nil); (focus (go_simp; (go_at_call 73; refine Calls.mono (rsub_ok X1 X2 d _ hI1.out hI2.out hE5.out) ?_; rintro e0 w5 ⟨rfl, hb⟩; have hS := HKP.out _ _ hb hHeld; have hb4 := HB4.out; have HB5 := Lib.hid (show Below W0.heap.size W0 w5 from Below.trans (by (try with_reducible refine bsz ?_); repeat (first | with_reducible exact Below.refl _ _ | ((with_reducible refine bpre ?_); (try simp only [Array.append_assoc]); repeat (first | with_reducible exact Pre.refl _ | with_reducible exact Pre.base _ _ | with_reducible refine Pre.cons _ ?_)) | with_reducible assumption | ((with_reducible refine bsetr ?_); rfl) | with_reducible refine Below.setCell ?_ (by simp <;> omega) _ | with_reducible refine bpl ?_ _ _ | with_reducible refine bal ?_ _ | with_reducible refine bdrew1 ?_ | with_reducible refine bdrew ?_ _)) (hb.mono (by first | omega | (simp <;> omega)))); (try (have kq := bblk hb (blklt kp) kp; clear kp; have kp := kq; clear kq; obtain ⟨pz0, pz1, pf0, pf1⟩ := blk2 kp; have pzz := blklt kp)); have hz5 := HB5.out.size; obtain ⟨v0, v1, v2, v3, v4, v5, v6, v7, v8⟩ := hS; have z5 : w.heap.size < w5.heap.size := World.block_lt_of_cell? _ _ v3; have z6 : w.heap.size + 1 < w5.heap.size := World.block_lt_of_cell? _ _ v6; have z7 : bl < w5.heap.size := World.block_lt_of_cell? _ _ v0; have hS : True := trivial; clear hb hb4); go_wp2_with fail; refine hK.out _ _ ?_ (fun hHeld => ?_); (focus (first | exact hS | (simp [*, go_sem]; done) | fail)); clear hK K; (try simp only [Act.put, List.setIfInBounds_toArray, List.set_cons_zero, List.set_cons_succ]); refine rg_take 13 (some 41) (v := ?_) rfl (by kernel_rfl) (by kernel_rfl) (by kernel_rfl) (by kernel_rfl) (fun _ _ _ h => h) (Or.inl ⟨by kernel_rfl, ?_⟩) (by assumption) ?_; rotate_left; (focus (intro w' hSw; (try dsimp only at hSw); go_simp; (try with_reducible rfl))); (try simp only [Act.put, List.setIfInBounds_toArray, List.set_cons_zero, List.set_cons_succ]); refine rg_take 14 (some 55) (v := ?_) rfl (by kernel_rfl) (by kernel_rfl) (by kernel_rfl) (by kernel_rfl) (fun _ _ _ h => h) (Or.inl ⟨by kernel_rfl, ?_⟩) (by assumption) ?_; rotate_left; (focus (intro w' hSw; (try dsimp only at hSw); go_simp; (try with_reducible rfl))); (try simp only [Act.put, List.setIfInBounds_toArray, List.set_cons_zero, List.set_cons_succ]); refine rg_take 15 (some 56) (v := ?_) rfl (by kernel_rfl) (by kernel_rfl) (by kernel_rfl) (by kernel_rfl) (fun _ _ _ h => h) (Or.inl ⟨by kernel_rfl, ?_⟩) (by assumption) ?_; rotate_left; (focus (intro w' hSw; (try dsimp only at hSw); go_simp; (try with_reducible rfl))); (try simp only [Act.put, List.setIfInBounds_toArray, List.set_cons_zero, List.set_cons_succ]); refine wpAnyH_ready (rs := [16]) (by kernel_rfl) (by simp) ?_; refine AllReadyH.cons rfl (fun K hK => ?_) AllReadyH.nil; (try go_simp); refine hK.out _ _ ?_ (fun hHeld => ?_); (focus (first | exact hS | (simp [*, go_sem]; done) | fail)); clear hK K; (try simp only [Act.put, List.setIfInBounds_toArray, List.set_cons_zero, List.set_cons_succ]); refine wpAnyH_ready (rs := [17]) (by kernel_rfl) (by simp) ?_; refine AllReadyH.cons rfl (fun K hK => ?_) AllReadyH.nil; (try go_simp); refine hK.out _ _ ?_ (fun hHeld => ?_); (focus (first | exact hS | (simp [*, go_sem]; done) | fail)); clear hK K; (try simp only [Act.put, List.setIfInBounds_toArray, List.set_cons_zero, List.set_cons_succ]); refine rg_take 18 (some 11) (v := ?_) rfl (by kernel_rfl) (by kernel_rfl) (by kernel_rfl) (by kernel_rfl) (fun _ _ _ h => h) (Or.inl ⟨by kernel_rfl, ?_⟩) (by assumption) ?_; rotate_left; (focus (intro w' hSw; (try dsimp only at hSw); go_simp; (try with_reducible rfl))); (try simp only [Act.put, List.setIfInBounds_toArray, List.set_cons_zero, List.set_cons_succ]); refine wpAnyH_done (by kernel_rfl) ?_ _)); rotate_left 1; (focus (((try go_simp); have hS := HKP.out _ _ (bal (Below.refl (w4).heap.size (w4)) (.cells #[.int .i64 0, .int .i64 0] 47)) hHeld; have kp : ((w4).alloc (.cells #[.int .i64 0, .int .i64 0] 47)).heap[w4.heap.size]? = _ := blknew _ _; have hnb : W0.heap.size ≤ w4.heap.size := hz4); refine hK.out _ _ ?_ (fun hHeld => ?_); (focus (first | exact hS | (simp [*, go_sem]; done) | fail)); clear hK K; (try simp only [Act.put, List.setIfInBounds_toArray, List.set_cons_zero, List.set_cons_succ]); refine wpAnyH_ready (rs := [12]) (by kernel_rfl) (by simp) ?_; refine AllReadyH.cons rfl (fun K hK => ?_) AllReadyH.nil; go_simp; (go_at_call 73; refine Calls.mono (rsub_ok X1 X2 d _ hI1.out hI2.out hE5.out) ?_; rintro e0 w5 ⟨rfl, hb⟩; have hS := HKP.out _ _ hb hHeld; have hb4 := HB4.out; have HB5 := Lib.hid (show Below W0.heap.size W0 w5 from Below.trans (by (try with_reducible refine bsz ?_); repeat (first | with_reducible exact Below.refl _ _ | ((with_reducible refine bpre ?_); (try simp only [Array.append_assoc]); repeat (first | with_reducible exact Pre.refl _ | with_reducible exact Pre.base _ _ | with_reducible refine Pre.cons _ ?_)) | with_reducible assumption | ((with_reducible refine bsetr ?_); rfl) | with_reducible refine Below.setCell ?_ (by simp <;> omega) _ | with_reducible refine bpl ?_ _ _ | with_reducible refine bal ?_ _ | with_reducible refine bdrew1 ?_ | with_reducible refine bdrew ?_ _)) (hb.mono (by first | omega | (simp <;> omega)))); (try (have kq := bblk hb (blklt kp) kp; clear kp; have kp := kq; clear kq; obtain ⟨pz0, pz1, pf0, pf1⟩ := blk2 kp; have pzz := blklt kp)); have hz5 := HB5.out.size; obtain ⟨v0, v1, v2, v3, v4, v5, v6, v7, v8⟩ := hS; have z5 : w.heap.size < w5.heap.size := World.block_lt_of_cell? _ _ v3; have z6 : w.heap.size + 1 < w5.heap.size := World.block_lt_of_cell? _ _ v6; have z7 : bl < w5.heap.size := World.block_lt_of_cell? _ _ v0; have hS : True := trivial; clear hb hb4); go_wp2_with fail; refine hK.out _ _ ?_ (fun hHeld => ?_); (focus (first | exact hS | (simp [*, go_sem]; done) | fail)); clear hK K; (try simp only [Act.put, List.setIfInBounds_toArray, List.set_cons_zero, List.set_cons_succ]); refine rg_take 13 (some 41) (v := ?_) rfl (by kernel_rfl) (by kernel_rfl) (by kernel_rfl) (by kernel_rfl) (fun _ _ _ h => h) (Or.inl ⟨by kernel_rfl, ?_⟩) (by assumption) ?_; rotate_left; (focus (intro w' hSw; (try dsimp only at hSw); go_simp; (try with_reducible rfl))); (try simp only [Act.put, List.setIfInBounds_toArray, List.set_cons_zero, List.set_cons_succ]); refine rg_take 14 (some 55) (v := ?_) rfl (by kernel_rfl) (by kernel_rfl) (by kernel_rfl) (by kernel_rfl) (fun _ _ _ h => h) (Or.inl ⟨by kernel_rfl, ?_⟩) (by assumption) ?_; rotate_left; (focus (intro w' hSw; (try dsimp only at hSw); go_simp; (try with_reducible rfl))); (try simp only [Act.put, List.setIfInBounds_toArray, List.set_cons_zero, List.set_cons_succ]); refine rg_take 15 (some 56) (v := ?_) rfl (by kernel_rfl) (by kernel_rfl) (by kernel_rfl) (by kernel_rfl) (fun _ _ _ h => h) (Or.inl ⟨by kernel_rfl, ?_⟩) (by assumption) ?_; rotate_left; (focus (intro w' hSw; (try dsimp only at hSw); go_simp; (try with_reducible rfl))); (try simp only [Act.put, List.setIfInBounds_toArray, List.set_cons_zero, List.set_cons_succ]); refine wpAnyH_ready (rs := [17]) (by kernel_rfl) (by simp) ?_; refine AllReadyH.cons rfl (fun K hK => ?_) AllReadyH.nil; (try go_simp); refine hK.out _ _ ?_ (fun hHeld => ?_); (focus (first | exact hS | (simp [*, go_sem]; done) | fail)); clear hK K; (try simp only [Act.put, List.setIfInBounds_toArray, List.set_cons_zero, List.set_cons_succ]); refine rg_take 18 (some 11) (v := ?_) rfl (by kernel_rfl) (by kernel_rfl) (by kernel_rfl) (by kernel_rfl) (fun _ _ _ h => h) (Or.inl ⟨by kernel_rfl, ?_⟩) (by assumption) ?_; rotate_left; (focus (intro w' hSw; (try dsimp only at hSw); go_simp; (try with_reducible rfl))); (try simp only [Act.put, List.setIfInBounds_toArray, List.set_cons_zero, List.set_cons_succ]); refine wpAnyH_done (by kernel_rfl) ?_ _)); rotate_left 1)); rotate_left 2; (focus (((try go_simp); have hS := HKP.out _ _ (bal (Below.refl (w3).heap.size (w3)) (.cells #[.int .i64 0, .int .i64 0] 47)) hHeld; have kp : ((w3).alloc (.cells #[.int .i64 0, .int .i64 0] 47)).heap[w3.heap.size]? = _ := blknew _ _; have hnb : W0.heap.size ≤ w3.heap.size := hz3); refine hK.out _ _ ?_ (fun hHeld => ?_); (focus (first | exact hS | (simp [*, go_sem]; done) | fail)); clear hK K; (try simp only [Act.put, List.setIfInBounds_toArray, List.set_cons_zero, List.set_cons_succ]); refine wpAnyH_ready (rs := [11]) (by kernel_rfl) (by simp) ?_; refine AllReadyH.cons rfl (fun K hK => ?_) AllReadyH.nil; go_simp; (go_at_call 50; refine Calls.mono (HDx2.out _) ?_; rintro e0 w4 ⟨rfl, hb⟩; have hS := HKP.out _ _ hb hHeld; have hb3 := HB3.out; have HB4 := Lib.hid (show Below W0.heap.size W0 w4 from Below.trans (by (try with_reducible refine bsz ?_); repeat (first | with_reducible exact Below.refl _ _ | ((with_reducible refine bpre ?_); (try simp only [Array.append_assoc]); repeat (first | with_reducible exact Pre.refl _ | with_reducible exact Pre.base _ _ | with_reducible refine Pre.cons _ ?_)) | with_reducible assumption | ((with_reducible refine bsetr ?_); rfl) | with_reducible refine Below.setCell ?_ (by simp <;> omega) _ | with_reducible refine bpl ?_ _ _ | with_reducible refine bal ?_ _ | with_reducible refine bdrew1 ?_ | with_reducible refine bdrew ?_ _)) (hb.mono (by first | omega | (simp <;> omega)))); (try (have kq := bblk hb (blklt kp) kp; clear kp; have kp := kq; clear kq)); have hz4 := HB4.out.size; clear hb hb3); go_wp2_with fail; refine hK.out _ _ ?_ (fun hHeld => ?_); (focus (first | exact hS | (simp [*, go_sem]; done) | fail)); clear hK K; (try simp only [Act.put, List.setIfInBounds_toArray, List.set_cons_zero, List.set_cons_succ]); refine wpAnyH_ready (rs := [12]) (by kernel_rfl) (by simp) ?_; refine AllReadyH.cons rfl (fun K hK => ?_) AllReadyH.nil; go_simp; (go_at_call 73; refine Calls.mono (rsub_ok X1 X2 d _ hI1.out hI2.out hE5.out) ?_; rintro e0 w5 ⟨rfl, hb⟩; have hS := HKP.out _ _ hb hHeld; have hb4 := HB4.out; have HB5 := Lib.hid (show Below W0.heap.size W0 w5 from Below.trans (by (try with_reducible refine bsz ?_); repeat (first | with_reducible exact Below.refl _ _ | ((with_reducible refine bpre ?_); (try simp only [Array.append_assoc]); repeat (first | with_reducible exact Pre.refl _ | with_reducible exact Pre.base _ _ | with_reducible refine Pre.cons _ ?_)) | with_reducible assumption | ((with_reducible refine bsetr ?_); rfl) | with_reducible refine Below.setCell ?_ (by simp <;> omega) _ | with_reducible refine bpl ?_ _ _ | with_reducible refine bal ?_ _ | with_reducible refine bdrew1 ?_ | with_reducible refine bdrew ?_ _)) (hb.mono (by first | omega | (simp <;> omega)))); (try (have kq := bblk hb (blklt kp) kp; clear kp; have kp := kq; clear kq; obtain ⟨pz0, pz1, pf0, pf1⟩ := blk2 kp; have pzz := blklt kp)); have hz5 := HB5.out.size; obtain ⟨v0, v1, v2, v3, v4, v5, v6, v7, v8⟩ := hS; have z5 : w.heap.size < w5.heap.size := World.block_lt_of_cell? _ _ v3; have z6 : w.heap.size + 1 < w5.heap.size := World.block_lt_of_cell? _ _ v6; have z7 : bl < w5.heap.size := World.block_lt_of_cell? _ _ v0; have hS : True := trivial; clear hb hb4); go_wp2_with fail; refine hK.out _ _ ?_ (fun hHeld => ?_); (focus (first | exact hS | (simp [*, go_sem]; done) | fail)); clear hK K; (try simp only [Act.put, List.setIfInBounds_toArray, List.set_cons_zero, List.set_cons_succ]); refine rg_take 13 (some 41) (v := ?_) rfl (by kernel_rfl) (by kernel_rfl) (by kernel_rfl) (by kernel_rfl) (fun _ _ _ h => h) (Or.inl ⟨by kernel_rfl, ?_⟩) (by assumption) ?_; rotate_left; (focus (intro w' hSw; (try dsimp only at hSw); go_simp; (try with_reducible rfl))); (try simp only [Act.put, List.setIfInBounds_toArray, List.set_cons_zero, List.set_cons_succ]); refine rg_take 14 (some 55) (v := ?_) rfl (by kernel_rfl) (by kernel_rfl) (by kernel_rfl) (by kernel_rfl) (fun _ _ _ h => h) (Or.inl ⟨by kernel_rfl, ?_⟩) (by assumption) ?_; rotate_left; (focus (intro w' hSw; (try dsimp only at hSw); go_simp; (try with_reducible rfl))); (try simp only [Act.put, List.setIfInBounds_toArray, List.set_cons_zero, List.set_cons_succ]); refine rg_take 15 (some 56) (v := ?_) rfl (by kernel_rfl) (by kernel_rfl) (by kernel_rfl) (by kernel_rfl) (fun _ _ _ h => h) (Or.inl ⟨by kernel_rfl, ?_⟩) (by assumption) ?_; rotate_left; (focus (intro w' hSw; (try dsimp only at hSw); go_simp; (try with_reducible rfl))); (try simp only [Act.put, List.setIfInBounds_toArray, List.set_cons_zero, List.set_cons_succ]); refine wpAnyH_ready (rs := [17]) (by kernel_rfl) (by simp) ?_; refine AllReadyH.cons rfl (fun K hK => ?_) AllReadyH.nil; (try go_simp); refine hK.out _ _ ?_ (fun hHeld => ?_); (focus (first | exact hS | (simp [*, go_sem]; done) | fail)); clear hK K; (try simp only [Act.put, List.setIfInBounds_toArray, List.set_cons_zero, List.set_cons_succ]); refine rg_take 18 (some 11) (v := ?_) rfl (by kernel_rfl) (by kernel_rfl) (by kernel_rfl) (by kernel_rfl) (fun _ _ _ h => h) (Or.inl ⟨by kernel_rfl, ?_⟩) (by assumption) ?_; rotate_left; (focus (intro w' hSw; (try dsimp only at hSw); go_simp; (try with_reducible rfl))); (try simp only [Act.put, List.setIfInBounds_toArray, List.set_cons_zero, List.set_cons_succ]); refine wpAnyH_done (by kernel_rfl) ?_ _)); rotate_left 1)); rotate_left 3; (focus (((try go_simp); have hS := HKP.out _ _ (bal (Below.refl (W0.drew).heap.size (W0.drew)) (.cells #[.int .i64 0, .int .i64 0] 47)) hHeld; have kp : ((W0.drew).alloc (.cells #[.int .i64 0, .int .i64 0] 47)).heap[W0.heap.size]? = _ := blknew _ _; have hnb : W0.heap.size ≤ W0.heap.size := Nat.le_refl _); refine hK.out _ _ ?_ (fun hHeld => ?_); (focus (first | exact hS | (simp [*, go_sem]; done) | fail)); clear hK K; (try simp only [Act.put, List.setIfInBounds_toArray, List.set_cons_zero, List.set_cons_succ]); refine wpAnyH_ready (rs := [5]) (by kernel_rfl) (by simp) ?_; refine AllReadyH.cons rfl (fun K hK => ?_) AllReadyH.nil; go_simp; (go_at_call 50; refine Calls.mono (HDx1.out _) ?_; rintro e0 w3 ⟨rfl, hb⟩; have hS := HKP.out _ _ hb hHeld; have HB3 := Lib.hid (show Below W0.heap.size W0 w3 from Below.trans (by (try with_reducible refine bsz ?_); repeat (first | with_reducible exact Below.refl _ _ | ((with_reducible refine bpre ?_); (try simp only [Array.append_assoc]); repeat (first | with_reducible exact Pre.refl _ | with_reducible exact Pre.base _ _ | with_reducible refine Pre.cons _ ?_)) | with_reducible assumption | ((with_reducible refine bsetr ?_); rfl) | with_reducible refine Below.setCell ?_ (by simp <;> omega) _ | with_reducible refine bpl ?_ _ _ | with_reducible refine bal ?_ _ | with_reducible refine bdrew1 ?_ | with_reducible refine bdrew ?_ _)) (hb.mono (by first | omega | (simp <;> omega)))); (try (have kq := bblk hb (blklt kp) kp; clear kp; have kp := kq; clear kq)); have hz3 := HB3.out.size; clear hb); go_wp2_with fail; refine hK.out _ _ ?_ (fun hHeld => ?_); (focus (first | exact hS | (simp [*, go_sem]; done) | fail)); clear hK K; (try simp only [Act.put, List.setIfInBounds_toArray, List.set_cons_zero, List.set_cons_succ]); refine wpAnyH_ready (rs := [11]) (by kernel_rfl) (by simp) ?_; refine AllReadyH.cons rfl (fun K hK => ?_) AllReadyH.nil; go_simp; (go_at_call 50; refine Calls.mono (HDx2.out _) ?_; rintro e0 w4 ⟨rfl, hb⟩; have hS := HKP.out _ _ hb hHeld; have hb3 := HB3.out; have HB4 := Lib.hid (show Below W0.heap.size W0 w4 from Below.trans (by (try with_reducible refine bsz ?_); repeat (first | with_reducible exact Below.refl _ _ | ((with_reducible refine bpre ?_); (try simp only [Array.append_assoc]); repeat (first | with_reducible exact Pre.refl _ | with_reducible exact Pre.base _ _ | with_reducible refine Pre.cons _ ?_)) | with_reducible assumption | ((with_reducible refine bsetr ?_); rfl) | with_reducible refine Below.setCell ?_ (by simp <;> omega) _ | with_reducible refine bpl ?_ _ _ | with_reducible refine bal ?_ _ | with_reducible refine bdrew1 ?_ | with_reducible refine bdrew ?_ _)) (hb.mono (by first | omega | (simp <;> omega)))); (try (have kq := bblk hb (blklt kp) kp; clear kp; have kp := kq; clear kq)); have hz4 := HB4.out.size; clear hb hb3); go_wp2_with fail; refine hK.out _ _ ?_ (fun hHeld => ?_); (focus (first | exact hS | (simp [*, go_sem]; done) | fail)); clear hK K; (try simp only [Act.put, List.setIfInBounds_toArray, List.set_cons_zero, List.set_cons_succ]); refine wpAnyH_ready (rs := [12]) (by kernel_rfl) (by simp) ?_; refine AllReadyH.cons rfl (fun K hK => ?_) AllReadyH.nil; go_simp; (go_at_call 73; refine Calls.mono (rsub_ok X1 X2 d _ hI1.out hI2.out hE5.out) ?_; rintro e0 w5 ⟨rfl, hb⟩; have hS := HKP.out _ _ hb hHeld; have hb4 := HB4.out; have HB5 := Lib.hid (show Below W0.heap.size W0 w5 from Below.trans (by (try with_reducible refine bsz ?_); repeat (first | with_reducible exact Below.refl _ _ | ((with_reducible refine bpre ?_); (try simp only [Array.append_assoc]); repeat (first | with_reducible exact Pre.refl _ | with_reducible exact Pre.base _ _ | with_reducible refine Pre.cons _ ?_)) | with_reducible assumption | ((with_reducible refine bsetr ?_); rfl) | with_reducible refine Below.setCell ?_ (by simp <;> omega) _ | with_reducible refine bpl ?_ _ _ | with_reducible refine bal ?_ _ | with_reducible refine bdrew1 ?_ | with_reducible refine bdrew ?_ _)) (hb.mono (by first | omega | (simp <;> omega)))); (try (have kq := bblk hb (blklt kp) kp; clear kp; have kp := kq; clear kq; obtain ⟨pz0, pz1, pf0, pf1⟩ := blk2 kp; have pzz := blklt kp)); have hz5 := HB5.out.size; obtain ⟨v0, v1, v2, v3, v4, v5, v6, v7, v8⟩ := hS; have z5 : w.heap.size < w5.heap.size := World.block_lt_of_cell? _ _ v3; have z6 : w.heap.size + 1 < w5.heap.size := World.block_lt_of_cell? _ _ v6; have z7 : bl < w5.heap.size := World.block_lt_of_cell? _ _ v0; have hS : True := trivial; clear hb hb4); go_wp2_with fail; refine hK.out _ _ ?_ (fun hHeld => ?_); (focus (first | exact hS | (simp [*, go_sem]; done) | fail)); clear hK K; (try simp only [Act.put, List.setIfInBounds_toArray, List.set_cons_zero, List.set_cons_succ]); refine rg_take 13 (some 41) (v := ?_) rfl (by kernel_rfl) (by kernel_rfl) (by kernel_rfl) (by kernel_rfl) (fun _ _ _ h => h) (Or.inl ⟨by kernel_rfl, ?_⟩) (by assumption) ?_; rotate_left; (focus (intro w' hSw; (try dsimp only at hSw); go_simp; (try with_reducible rfl))); (try simp only [Act.put, List.setIfInBounds_toArray, List.set_cons_zero, List.set_cons_succ]); refine rg_take 14 (some 55) (v := ?_) rfl (by kernel_rfl) (by kernel_rfl) (by kernel_rfl) (by kernel_rfl) (fun _ _ _ h => h) (Or.inl ⟨by kernel_rfl, ?_⟩) (by assumption) ?_; rotate_left; (focus (intro w' hSw; (try dsimp only at hSw); go_simp; (try with_reducible rfl))); (try simp only [Act.put, List.setIfInBounds_toArray, List.set_cons_zero, List.set_cons_succ]); refine rg_take 15 (some 56) (v := ?_) rfl (by kernel_rfl) (by kernel_rfl) (by kernel_rfl) (by kernel_rfl) (fun _ _ _ h => h) (Or.inl ⟨by kernel_rfl, ?_⟩) (by assumption) ?_; rotate_left; (focus (intro w' hSw; (try dsimp only at hSw); go_simp; (try with_reducible rfl))); (try simp only [Act.put, List.setIfInBounds_toArray, List.set_cons_zero, List.set_cons_succ]); refine wpAnyH_ready (rs := [17]) (by kernel_rfl) (by simp) ?_; refine AllReadyH.cons rfl (fun K hK => ?_) AllReadyH.nil; (try go_simp); refine hK.out _ _ ?_ (fun hHeld => ?_); (focus (first | exact hS | (simp [*, go_sem]; done) | fail)); clear hK K; (try simp only [Act.put, List.setIfInBounds_toArray, List.set_cons_zero, List.set_cons_succ]); refine rg_take 18 (some 11) (v := ?_) rfl (by kernel_rfl) (by kernel_rfl) (by kernel_rfl) (by kernel_rfl) (fun _ _ _ h => h) (Or.inl ⟨by kernel_rfl, ?_⟩) (by assumption) ?_; rotate_left; (focus (intro w' hSw; (try dsimp only at hSw); go_simp; (try with_reducible rfl))); (try simp only [Act.put, List.setIfInBounds_toArray, List.set_cons_zero, List.set_cons_succ]); refine wpAnyH_done (by kernel_rfl) ?_ _)); rotate_left 1)
        all_goals
          clear hHeld
          have hb5 := HB5.out
          go_wp2_with fail
          go_meet
          exact ⟨_, rfl, rfl, (by repeat (first | with_reducible assumption | with_reducible refine pls_block _ _ ?_ | with_reducible apply blkset2 | with_reducible apply blkset1 | ((with_reducible refine blksetN ?_ ?_ _); (focus (simp <;> omega))) | with_reducible exact blknew _ _ | ((with_reducible refine blknew' _ _ _ ?_); (simp <;> omega)) | with_reducible refine blkal ?_ _)), (by (try with_reducible refine bsz ?_); repeat (first | with_reducible exact Below.refl _ _ | ((with_reducible refine bpre ?_); (try simp only [Array.append_assoc]); repeat (first | with_reducible exact Pre.refl _ | with_reducible exact Pre.base _ _ | with_reducible refine Pre.cons _ ?_)) | with_reducible assumption | ((with_reducible refine bsetr ?_); rfl) | with_reducible refine Below.setCell ?_ (by simp <;> omega) _ | with_reducible refine bpl ?_ _ _ | with_reducible refine bal ?_ _ | with_reducible refine bdrew1 ?_ | with_reducible refine bdrew ?_ _)), (by first | omega | (simp <;> omega))⟩
      case rest =>
        obtain ⟨g10, rfl, rfl, kd, hBx, hg⟩ := hcut
        obtain ⟨w5, rfl⟩ : ∃ z, z = wc := ⟨_, rfl⟩
        have HBx := Lib.hid hBx
        have KD := Lib.hid kd
        have yd := blklt kd
        have hz5 := hBx.size
        obtain ⟨d0, d1, df0, df1⟩ := blk2 kd
        have ko := bblk hBx y4 B4.out
        obtain ⟨s0, s1, s2, s3⟩ := blk2 ko
        have ys := blklt ko
        clear hBx kd ko
        by_cases hng : d.1 < 0
        · have ea : absI d.1 = -d.1 := by unfold absI; omega
          have HOP : Hid (∀ w, Calls Try.prog 74 #[.agg #[.int .i64 d.1, .int .i64 d.2]] w fun e w' => e = .returned (.agg #[.int .i64 (absI d.1), .int .i64 d.2]) ∧ Below w.heap.size w w') := Lib.hid fun w => by rw [ea]; exact soppM_any d w hDM.out
          clear ea
          go_wp2_with fail
          refine Calls.mono (HOP.out _) ?_
          rintro e0 w6 ⟨rfl, hb⟩
          have HB6 := Lib.hid (show Below W0.heap.size W0 w6 from Below.trans (by have hb5 := HBx.out; exact (by (try with_reducible refine bsz ?_); repeat (first | with_reducible exact Below.refl _ _ | ((with_reducible refine bpre ?_); (try simp only [Array.append_assoc]); repeat (first | with_reducible exact Pre.refl _ | with_reducible exact Pre.base _ _ | with_reducible refine Pre.cons _ ?_)) | with_reducible assumption | ((with_reducible refine bsetr ?_); rfl) | with_reducible refine Below.setCell ?_ (by simp <;> omega) _ | with_reducible refine bpl ?_ _ _ | with_reducible refine bal ?_ _ | with_reducible refine bdrew1 ?_ | with_reducible refine bdrew ?_ _))) (hb.mono (by first | omega | (simp <;> omega))))
          have kd := bblk hb (by first | exact yd | (simp; exact yd)) (show _ = _ from (by have kd := KD.out; exact (by repeat (first | with_reducible assumption | with_reducible refine pls_block _ _ ?_ | with_reducible apply blkset2 | with_reducible apply blkset1 | ((with_reducible refine blksetN ?_ ?_ _); (focus (simp <;> omega))) | with_reducible exact blknew _ _ | ((with_reducible refine blknew' _ _ _ ?_); (simp <;> omega)) | with_reducible refine blkal ?_ _))))
          have KD6 := Lib.hid kd
          have yd6 := blklt kd
          obtain ⟨g0, g1, gf0, gf1⟩ := blk2 kd
          have ko := bblk HB6.out y4 B4.out
          have yo6 := blklt ko
          obtain ⟨h0, h1, hf0, hf1⟩ := blk2 ko
          clear hb kd ko
          go_wp2_with fail
          refine Calls.mono (HC.out _) ?_
          rintro e0 w7 ⟨rfl, hb⟩
          have HB7 := Lib.hid (show Below W0.heap.size W0 w7 from Below.trans (by have hb6 := HB6.out; exact (by (try with_reducible refine bsz ?_); repeat (first | with_reducible exact Below.refl _ _ | ((with_reducible refine bpre ?_); (try simp only [Array.append_assoc]); repeat (first | with_reducible exact Pre.refl _ | with_reducible exact Pre.base _ _ | with_reducible refine Pre.cons _ ?_)) | with_reducible assumption | ((with_reducible refine bsetr ?_); rfl) | with_reducible refine Below.setCell ?_ (by simp <;> omega) _ | with_reducible refine bpl ?_ _ _ | with_reducible refine bal ?_ _ | with_reducible refine bdrew1 ?_ | with_reducible refine bdrew ?_ _))) (hb.mono (by have := HB6.out.size; simp <;> omega)))
          have t70 := bkeep hb (a := ⟨g10, 0, none⟩) (v := .int .i64 (absI d.1)) (by first | assumption | simp [go_sem, *])
          have t71 := bkeep hb (a := ⟨g10, 1, none⟩) (v := .int .i64 d.2) (by first | assumption | simp [go_sem, *])
          have ko := bblk HB7.out y4 B4.out
          obtain ⟨z0, z1, zf0, zf1⟩ := blk2 ko
          have yo := blklt ko
          have KO7 := Lib.hid ko
          clear hb ko
          by_cases hgt : 0 < cv
          · have hfb' : faB m d = (absI d.1, d.2) := by rw [hfb.out, if_pos hgt]
            rw [hfb'] at hI'
            clear hfb'
            go_wp2_with fail
            go_roundw
            case rel =>
              have hb7 := HB7.out
              exact ⟨a + 1, (absI d.1, d.2), by omega, by go_num, blkset (blkset (bblk hb7 y0 B0.out) (by show w.heap.size ≠ w2.heap.size; omega) _) (by show w.heap.size ≠ w2.heap.size; omega) _, blkset (blkset (bblk hb7 y1 B1.out) (by show w.heap.size + 1 ≠ w2.heap.size; omega) _) (by show w.heap.size + 1 ≠ w2.heap.size; omega) _, blkset (blkset (bblk hb7 (blklt B2.out) B2.out) (by show w.heap.size + 1 + 1 ≠ w2.heap.size; omega) _) (by show w.heap.size + 1 + 1 ≠ w2.heap.size; omega) _, blkset2 KO7.out _ _, Lib.hid ((hG.out.below (Nat.le_refl _) hb7).chg (Chg.set (F := [w2.heap.size]) (Chg.set (F := [w2.heap.size]) (Chg.refl _ _) (by simp) _) (by simp) _) (fun q hq => by have := hF2.out q hq; simp; omega)), hI', Below.setCell (Below.setCell (hB.trans (hb7.mono hB.size)) (by show w.heap.size ≤ w2.heap.size; omega) _) (by show w.heap.size ≤ w2.heap.size; omega) _⟩
            case measure => simp [intOf]; omega
          · have hfb' : faB m d = m := by rw [hfb.out, if_neg hgt]
            rw [hfb'] at hI'
            clear hfb'
            go_wp2_with fail
            go_roundw
            case rel =>
              have hb7 := HB7.out
              exact ⟨a + 1, m, by omega, by go_num, bblk hb7 y0 B0.out, bblk hb7 y1 B1.out, bblk hb7 (blklt B2.out) B2.out, KO7.out, Lib.hid (hG.out.below (Nat.le_refl _) hb7), hI', hB.trans (hb7.mono hB.size)⟩
            case measure => simp [intOf]; omega
        · have ea : absI d.1 = d.1 := by unfold absI; omega
          rw [ea] at HC hfb
          go_wp2_with fail
          refine Calls.mono (HC.out _) ?_
          rintro e0 w7 ⟨rfl, hb⟩
          have HB7 := Lib.hid (show Below W0.heap.size W0 w7 from Below.trans (by have hb5 := HBx.out; exact (by (try with_reducible refine bsz ?_); repeat (first | with_reducible exact Below.refl _ _ | ((with_reducible refine bpre ?_); (try simp only [Array.append_assoc]); repeat (first | with_reducible exact Pre.refl _ | with_reducible exact Pre.base _ _ | with_reducible refine Pre.cons _ ?_)) | with_reducible assumption | ((with_reducible refine bsetr ?_); rfl) | with_reducible refine Below.setCell ?_ (by simp <;> omega) _ | with_reducible refine bpl ?_ _ _ | with_reducible refine bal ?_ _ | with_reducible refine bdrew1 ?_ | with_reducible refine bdrew ?_ _))) (hb.mono (by first | omega | (simp <;> omega))))
          have t70 := bkeep hb (a := ⟨g10, 0, none⟩) (v := .int .i64 d.1) (by first | assumption | simp [go_sem, *])
          have t71 := bkeep hb (a := ⟨g10, 1, none⟩) (v := .int .i64 d.2) (by first | assumption | simp [go_sem, *])
          have ko := bblk HB7.out y4 B4.out
          obtain ⟨z0, z1, zf0, zf1⟩ := blk2 ko
          have yo := blklt ko
          have KO7 := Lib.hid ko
          clear hb ko
          by_cases hgt : 0 < cv
          · have hfb' : faB m d = (d.1, d.2) := by rw [hfb.out, if_pos hgt]
            rw [hfb'] at hI'
            clear hfb'
            go_wp2_with fail
            go_roundw
            case rel =>
              have hb7 := HB7.out
              exact ⟨a + 1, (d.1, d.2), by omega, by go_num, blkset (blkset (bblk hb7 y0 B0.out) (by show w.heap.size ≠ w2.heap.size; omega) _) (by show w.heap.size ≠ w2.heap.size; omega) _, blkset (blkset (bblk hb7 y1 B1.out) (by show w.heap.size + 1 ≠ w2.heap.size; omega) _) (by show w.heap.size + 1 ≠ w2.heap.size; omega) _, blkset (blkset (bblk hb7 (blklt B2.out) B2.out) (by show w.heap.size + 1 + 1 ≠ w2.heap.size; omega) _) (by show w.heap.size + 1 + 1 ≠ w2.heap.size; omega) _, blkset2 KO7.out _ _, Lib.hid ((hG.out.below (Nat.le_refl _) hb7).chg (Chg.set (F := [w2.heap.size]) (Chg.set (F := [w2.heap.size]) (Chg.refl _ _) (by simp) _) (by simp) _) (fun q hq => by have := hF2.out q hq; simp; omega)), hI', Below.setCell (Below.setCell (hB.trans (hb7.mono hB.size)) (by show w.heap.size ≤ w2.heap.size; omega) _) (by show w.heap.size ≤ w2.heap.size; omega) _⟩
            case measure => simp [intOf]; omega
          · have hfb' : faB m d = m := by rw [hfb.out, if_neg hgt]
            rw [hfb'] at hI'
            clear hfb'
            go_wp2_with fail
            go_roundw
            case rel =>
              have hb7 := HB7.out
              exact ⟨a + 1, m, by omega, by go_num, bblk hb7 y0 B0.out, bblk hb7 y1 B1.out, bblk hb7 (blklt B2.out) B2.out, KO7.out, Lib.hid (hG.out.below (Nat.le_refl _) hb7), hI', hB.trans (hb7.mono hB.size)⟩
            case measure => simp [intOf]; omega
    · have ee : a = N := by omega
      subst ee
      have hfin : Hid (faR f g = m) := Lib.hid (by
        have h1 := hI.out.1
        rw [List.take_of_length_le (by show GL.length ≤ a; rw [hN.out]; exact Nat.le_refl _)] at h1
        rw [hr.out, h1])
      obtain ⟨t0, t1, u0, u1⟩ := blk2 b2
      have y2' := blklt b2
      clear b0 b1 b2 b4
      go_wp2_with fail
      exact bodyPost_ret (v := .tuple #[.agg #[.int .i64 m.1, .int .i64 m.2], .int .i64 0]) (by simp [results, Try.results26, go_sem, *]) rfl ⟨by rw [hc.out, hfin.out], (by (try with_reducible refine bsz ?_); repeat (first | with_reducible exact Below.refl _ _ | ((with_reducible refine bpre ?_); (try simp only [Array.append_assoc]); repeat (first | with_reducible exact Pre.refl _ | with_reducible exact Pre.base _ _ | with_reducible refine Pre.cons _ ?_)) | with_reducible assumption | ((with_reducible refine bsetr ?_); rfl) | with_reducible refine Below.setCell ?_ (by simp <;> omega) _ | with_reducible refine bpl ?_ _ _ | with_reducible refine bal ?_ _ | with_reducible refine bdrew1 ?_ | with_reducible refine bdrew ?_ _))⟩
end Go.Proofs.Ytfdobpeekipafaa

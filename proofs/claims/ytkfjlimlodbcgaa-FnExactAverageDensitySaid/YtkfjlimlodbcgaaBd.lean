/- impl.AverageDensity. -/
import Derived.Test.YtkfjlimlodbcgaaBc
import Derived.Test.YtkfjlimlodbcgaaTh
namespace Go.Proofs.Ytkfjlimlodbcgaa
open Go.ChangeShapes Go.WideShapes Go.RowKit
set_option linter.unusedVariables false
set_option linter.unusedSimpArgs false
attribute [local irreducible] Calls
/-- The code and the value of the average density. -/
def adC (f : Flg) (n e : Int) : Int := if flV f && grOk n e then (if f.2.1 ≤ n then 0 else 2) else 1
def adX (f : Flg) (x : Flg) : Int × Int := dns x.1.toNat x.2.1.toNat x.2.2 f
def adV (f : Flg) (n : Nat) (e : Int) : Option (Int × Int) := divO ((lsts n f.1.toNat []).foldl (avS (avP f.1.toNat (tyE f) e n) (fun L => adX f (avF f.1.toNat e n L))) (false, (0, 1))).2 (lisI n f.1.toNat, 1)
def adR (f : Flg) (n e : Int) : Int × Int := if adC f n e = 0 then rD (adV f n.toNat e) else (0, 0)
theorem ad_vl {f : Flg} {k m n : Nat} {e : Int} (hmf : f.2.1 = m) (hk : k ≤ 3) (hkm : k ≤ m) (hmn : m ≤ n) (hn : n ≤ 5) (L : List Int) : Vl (adX f (avF k e n L)) (ctF k n (onE e (L ++ rstI L n)) f) (dnC k n m) ∧ (0 ≤ ctF k n (onE e (L ++ rstI L n)) f ∧ ctF k n (onE e (L ++ rstI L n)) f ≤ 100) ∧ 1 ≤ dnC k n m ∧ dnC k n m ≤ 10 := by
  have h := dns_vl (k := k) (n := n) (e := onE e (L ++ rstI L n)) (f := f) hk hn (by omega) (by omega)
  have hm : f.2.1.toNat = m := by omega
  rw [hm] at h
  exact h
theorem lsts_len {n k : Nat} (hn : n ≤ 5) (hk : k ≤ 3) : (lsts n k []).length ≤ 120 := by
  have h1 := lists_cnt hn hk
  rw [lists_eq hn hk] at h1
  have h2 := lisI_bd n k hn (by omega)
  omega
theorem ad_inv {f : Flg} {k m n : Nat} {e te : Int} (hmf : f.2.1 = m) (hk : k ≤ 3) (hkm : k ≤ m) (hmn : m ≤ n) (hn : n ≤ 5) : ∀ a ≤ (lsts n k []).length, ∃ d, AvI (avP k te e n) (fun L => adX f (avF k e n L)) (lsts n k []) (dnC k n m) a d :=
  AvI.all (fun L _ _ => ⟨_, (ad_vl hmf hk hkm hmn hn L).1, (ad_vl hmf hk hkm hmn hn L).2.1⟩) (ad_vl (e := e) hmf hk hkm hmn hn []).2.2 (by have := lsts_len hn hk; omega)
theorem ad_end {f : Flg} {k m n : Nat} {e te : Int} {d : Int × Int} (hmf : f.2.1 = m) (hk : k ≤ 3) (hkm : k ≤ m) (hmn : m ≤ n) (hn : n ≤ 5)
    (h : AvI (avP k te e n) (fun L => adX f (avF k e n L)) (lsts n k []) (dnC k n m) (lsts n k []).length d) :
    inF d ∧ (lsts n k []).foldl (avS (avP k te e n) (fun L => adX f (avF k e n L))) (false, (0, 1)) = (false, d) ∧ ∃ r, divO d (lisI n k, 1) = some r ∧ inF r := by
  have h2 := h.2.1
  rw [List.take_length] at h2
  have hc := lisI_pos hn (show k ≤ n by omega)
  exact ⟨h.1, h2, h.div (ad_vl (e := e) hmf hk hkm hmn hn []).2.2 (by have := lsts_len hn hk; omega) ⟨hc.1, by omega⟩⟩
set_option maxHeartbeats 2000000 in
theorem AverageDensity_any (w : World) (f : Flg) (n e : Int) (hfo : okFlag f) (hgo : 0 ≤ e ∧ e ≤ 4294967295) :
    Calls Try.prog 10 #[.agg #[.int .i64 f.1, .int .i64 f.2.1, .int .u32 f.2.2], .agg #[.int .i64 n, .int .u32 e]] w fun e0 w' => e0 = .returned (.tuple #[.agg #[.int .i64 (adR f n e).1, .int .i64 (adR f n e).2], .int .i64 (adC f n e)]) ∧ Below w.heap.size w w' := by
  have HFO := Lib.hid hfo
  have HGO := Lib.hid hgo
  cases h1 : flV f
  · have hc : Hid (adC f n e = 1) := Lib.hid (by simp [adC, h1])
    have hr : Hid (adR f n e = (0, 0)) := Lib.hid (by unfold adR; rw [hc.out]; rfl)
    have H1 : Hid (badFl f = true) := Lib.hid (by unfold badFl; rw [h1]; rfl)
    clear h1 hfo hgo
    go_enter Try.func10, Try.ntmps10
    go_wp2_with (first | (go_at_call 41; refine Calls.mono (badFlag_i _ f HFO.out) ?_; rw [H1.out]; rintro e w1 ⟨rfl, hb⟩; obtain ⟨X, m, rfl⟩ := plsOf hb; clear hb))
    exact bodyPost_ret (v := .tuple #[.agg #[.int .i64 0, .int .i64 0], .int .i64 1]) (by simp [results, Try.results10, go_sem]) rfl ⟨by rw [hr.out, hc.out], (by (try with_reducible refine bsz ?_); repeat (first | with_reducible exact Below.refl _ _ | ((with_reducible refine bpre ?_); (try simp only [Array.append_assoc]); repeat (first | with_reducible exact Pre.refl _ | with_reducible exact Pre.base _ _ | with_reducible refine Pre.cons _ ?_)) | with_reducible assumption | ((with_reducible refine bsetr ?_); rfl) | with_reducible refine Below.setCell ?_ (by simp <;> omega) _ | with_reducible refine bpl ?_ _ _ | with_reducible refine bal ?_ _ | with_reducible refine bdrew1 ?_ | with_reducible refine bdrew ?_ _))⟩
  have H1 : Hid (badFl f = false) := Lib.hid (by unfold badFl; rw [h1]; rfl)
  cases h2 : grOk n e
  · have hc : Hid (adC f n e = 1) := Lib.hid (by simp [adC, h1, h2])
    have hr : Hid (adR f n e = (0, 0)) := Lib.hid (by unfold adR; rw [hc.out]; rfl)
    have H2 : Hid ((!grOk n e) = true) := Lib.hid (by rw [h2]; rfl)
    clear h1 h2 hfo hgo
    go_enter Try.func10, Try.ntmps10
    go_wp2_with (first | (go_at_call 41; refine Calls.mono (badFlag_i _ f HFO.out) ?_; rw [H1.out]; rintro e w1 ⟨rfl, hb⟩; obtain ⟨X, m, rfl⟩ := plsOf hb; clear hb) | (go_at_call 42; refine Calls.mono (badGraph_any n e _ HGO.out) ?_; rw [H2.out]; rintro e w1 ⟨rfl, hb⟩; obtain ⟨X, m, rfl⟩ := plsOf hb; clear hb))
    exact bodyPost_ret (v := .tuple #[.agg #[.int .i64 0, .int .i64 0], .int .i64 1]) (by simp [results, Try.results10, go_sem]) rfl ⟨by rw [hr.out, hc.out], (by (try with_reducible refine bsz ?_); repeat (first | with_reducible exact Below.refl _ _ | ((with_reducible refine bpre ?_); (try simp only [Array.append_assoc]); repeat (first | with_reducible exact Pre.refl _ | with_reducible exact Pre.base _ _ | with_reducible refine Pre.cons _ ?_)) | with_reducible assumption | ((with_reducible refine bsetr ?_); rfl) | with_reducible refine Below.setCell ?_ (by simp <;> omega) _ | with_reducible refine bpl ?_ _ _ | with_reducible refine bal ?_ _ | with_reducible refine bdrew1 ?_ | with_reducible refine bdrew ?_ _))⟩
  have H2 : Hid ((!grOk n e) = false) := Lib.hid (by rw [h2]; rfl)
  have hff := (flV_iff _).1 h1
  have hgg : 0 ≤ n ∧ n ≤ 5 := by
    have h := h2
    unfold grOk at h
    rw [Bool.and_eq_true] at h
    exact inB_iff.1 h.1
  obtain ⟨kN, hk⟩ := Int.eq_ofNat_of_zero_le hff.1.1
  obtain ⟨nN, rfl⟩ := Int.eq_ofNat_of_zero_le hgg.1
  obtain ⟨mN, hm⟩ := Int.eq_ofNat_of_zero_le hff.2.1.1
  by_cases h3 : mN ≤ nN
  rotate_left
  · have hc : Hid (adC f nN e = 2) := Lib.hid (by unfold adC; rw [h1, h2, hm]; simp; omega)
    have hr : Hid (adR f nN e = (0, 0)) := Lib.hid (by unfold adR; rw [hc.out]; rfl)
    have H3 : (nN : Int) < f.2.1 := by omega
    clear h1 h2 h3 hfo hgo hff hgg hk hm
    go_enter Try.func10, Try.ntmps10
    go_wp2_with (first | (go_at_call 41; refine Calls.mono (badFlag_i _ f HFO.out) ?_; rw [H1.out]; rintro e w1 ⟨rfl, hb⟩; obtain ⟨X, m, rfl⟩ := plsOf hb; clear hb) | (go_at_call 42; refine Calls.mono (badGraph_any nN e _ HGO.out) ?_; rw [H2.out]; rintro e w1 ⟨rfl, hb⟩; obtain ⟨X, m, rfl⟩ := plsOf hb; clear hb))
    exact bodyPost_ret (v := .tuple #[.agg #[.int .i64 0, .int .i64 0], .int .i64 2]) (by simp [results, Try.results10, go_sem]) rfl ⟨by rw [hr.out, hc.out], (by (try with_reducible refine bsz ?_); repeat (first | with_reducible exact Below.refl _ _ | ((with_reducible refine bpre ?_); (try simp only [Array.append_assoc]); repeat (first | with_reducible exact Pre.refl _ | with_reducible exact Pre.base _ _ | with_reducible refine Pre.cons _ ?_)) | with_reducible assumption | ((with_reducible refine bsetr ?_); rfl) | with_reducible refine Below.setCell ?_ (by simp <;> omega) _ | with_reducible refine bpl ?_ _ _ | with_reducible refine bal ?_ _ | with_reducible refine bdrew1 ?_ | with_reducible refine bdrew ?_ _))⟩
  have hc : Hid (adC f nN e = 0) := Lib.hid (by unfold adC; rw [h1, h2, hm]; simp; omega)
  have hkt : f.1.toNat = kN := by rw [hk]; rfl
  have hk3 : kN ≤ 3 := by omega
  have hkm : kN ≤ mN := by omega
  have hn5 : nN ≤ 5 := by omega
  obtain ⟨TE, hTE⟩ : ∃ TE, Hid (tyE f = TE) := ⟨_, Lib.hid rfl⟩
  obtain ⟨d, hd⟩ := ad_inv (f := f) (e := e) (te := TE) hm hk3 hkm h3 hn5 _ (Nat.le_refl _)
  obtain ⟨i1, hS, r, hr1, i2⟩ := ad_end hm hk3 hkm h3 hn5 hd
  have hr : Hid (adR f nN e = r) := Lib.hid (by
    unfold adR
    rw [if_pos hc.out]
    show rD (adV f nN e) = r
    unfold adV
    rw [hkt, hTE.out, hS, hr1]
    rfl)
  have HTY : Hid (∀ w, Calls Try.prog 45 #[.agg #[.int .i64 f.1, .int .i64 f.2.1, .int .u32 f.2.2]] w fun e0 w' => e0 = .returned (.agg #[.int .i64 kN, .int .u32 TE]) ∧ Below w.heap.size w w') := Lib.hid fun w => by
    have := typeOf_i w f (by omega)
    rw [hTE.out, hk] at this
    rw [hk]
    exact this
  have HAV : Hid (∀ w b, w.heap[b]? = some (.cells #[.bool false] 79 (0, 0)) → Calls Try.prog 44 #[.pointer (some ⟨b, 0, none⟩), .agg #[.int .i64 kN, .int .u32 TE], .agg #[.int .i64 nN, .int .u32 e], .func (.func 46) #[.agg #[.int .i64 f.1, .int .i64 f.2.1, .int .u32 f.2.2]] #[]] w fun e0 w' =>
      e0 = .returned (.agg #[.int .i64 r.1, .int .i64 r.2]) ∧ w'.heap[b]? = some (.cells #[.bool false] 79 (0, 0)) ∧ Chg [b] w w') := Lib.hid fun w b hb => by
    have := average_any w b kN nN TE e (adX f) 46 #[.agg #[.int .i64 f.1, .int .i64 f.2.1, .int .u32 f.2.2]] #[] (fun _ => True) false hn5 hk3 (by omega)
      (enters_of Try.func46 (by kernel_rfl) rfl)
      (fun L hL _ => ((ad_vl (f := f) (e := e) hm hk3 hkm h3 hn5 L).1.small (ad_vl (f := f) (e := e) hm hk3 hkm h3 hn5 L).2.2.1 (by have := (ad_vl (f := f) (e := e) hm hk3 hkm h3 hn5 L).2.2.2; omega) (by have := (ad_vl (f := f) (e := e) hm hk3 hkm h3 hn5 L).2.1; omega)).2)
      (fun _ _ _ _ _ _ => trivial)
      (fun L hL _ W' _ => density_any W' kN nN (onE e (L ++ rstI L nN)) f hk3 (by omega) hn5 (onE_ok _ _) h1 hfo hk (by omega))
      trivial hb
    rw [hS, hr1] at this
    exact this
  clear h1 h2 hfo hgo hff hgg hkt hd hS hr1 i1 i2
  have H3 : ¬ (nN : Int) < f.2.1 := by omega
  clear h3 hk hm
  go_enter Try.func10, Try.ntmps10
  go_wp2_with (first | (go_at_call 41; refine Calls.mono (badFlag_i _ f HFO.out) ?_; rw [H1.out]; rintro e w1 ⟨rfl, hb⟩; obtain ⟨X, m, rfl⟩ := plsOf hb; clear hb) | (go_at_call 42; refine Calls.mono (badGraph_any nN e _ HGO.out) ?_; rw [H2.out]; rintro e w1 ⟨rfl, hb⟩; obtain ⟨X, m, rfl⟩ := plsOf hb; clear hb))
  (refine wp_region_held_drew (S := (fun w' => w'.cell? ⟨w.heap.size, 0, none⟩ = some (.int .i64 f.1) ∧ w'.cell? ⟨w.heap.size, 1, none⟩ = some (.int .i64 f.2.1) ∧ w'.cell? ⟨w.heap.size, 2, none⟩ = some (.int .u32 f.2.2) ∧ w'.cell? ⟨w.heap.size + 1, 0, none⟩ = some (.int .i64 nN) ∧ w'.cell? ⟨w.heap.size + 1, 1, none⟩ = some (.int .u32 e))) (by kernel_rfl) ?_ (fun hHeld => ?_); (focus (first | exact hS | (simp [*, go_sem]; done) | fail)); refine rg_take 0 (some 24) (v := ?_) rfl (by kernel_rfl) (by kernel_rfl) (by kernel_rfl) (by kernel_rfl) (fun _ _ _ h => h) (Or.inl ⟨by kernel_rfl, ?_⟩) (by assumption) ?_; rotate_left; (focus (intro w' hSw; (try dsimp only at hSw); go_simp; (try with_reducible rfl))); (try simp only [Act.put, List.setIfInBounds_toArray, List.set_cons_zero, List.set_cons_succ]); refine rg_take 2 (some 26) (v := ?_) rfl (by kernel_rfl) (by kernel_rfl) (by kernel_rfl) (by kernel_rfl) (fun _ _ _ h => h) (Or.inl ⟨by kernel_rfl, ?_⟩) (by assumption) ?_; rotate_left; (focus (intro w' hSw; (try dsimp only at hSw); go_simp; (try with_reducible rfl))); (try simp only [Act.put, List.setIfInBounds_toArray, List.set_cons_zero, List.set_cons_succ]); refine rg_take 3 (some 27) (v := ?_) rfl (by kernel_rfl) (by kernel_rfl) (by kernel_rfl) (by kernel_rfl) (fun _ _ _ h => h) (Or.inl ⟨by kernel_rfl, ?_⟩) (by assumption) ?_; rotate_left; (focus (intro w' hSw; (try dsimp only at hSw); go_simp; (try with_reducible rfl))); (try simp only [Act.put, List.setIfInBounds_toArray, List.set_cons_zero, List.set_cons_succ]); refine rg_take 4 (some 28) (v := ?_) rfl (by kernel_rfl) (by kernel_rfl) (by kernel_rfl) (by kernel_rfl) (fun _ _ _ h => h) (Or.inl ⟨by kernel_rfl, ?_⟩) (by assumption) ?_; rotate_left; (focus (intro w' hSw; (try dsimp only at hSw); go_simp; (try with_reducible rfl))); (try simp only [Act.put, List.setIfInBounds_toArray, List.set_cons_zero, List.set_cons_succ]); refine wpAnyH_ready (rs := [1]) (by kernel_rfl) (by simp) ?_; refine AllReadyH.cons rfl (fun K hK => ?_) AllReadyH.nil; go_simp; (go_at_call 45; refine Calls.mono (HTY.out _) ?_; rintro e w1 ⟨rfl, hb⟩; obtain ⟨X1, m1, rfl⟩ := plsOf hb; clear hb); go_wp2_with fail; refine hK.out _ _ ?_ (fun hHeld => ?_); (focus (first | exact hS | (simp [*, go_sem]; done) | fail)); clear hK K; (try simp only [Act.put, List.setIfInBounds_toArray, List.set_cons_zero, List.set_cons_succ]); refine wpAnyH_ready (rs := [5]) (by kernel_rfl) (by simp) ?_; refine AllReadyH.cons rfl (fun K hK => ?_) AllReadyH.nil; go_simp; (go_at_call 44; refine Calls.mono (HAV.out _ _ (by repeat (first | with_reducible assumption | with_reducible refine pls_block _ _ ?_ | with_reducible apply blkset2 | with_reducible apply blkset1 | ((with_reducible refine blksetN ?_ ?_ _); (focus (simp <;> omega))) | with_reducible exact blknew _ _ | ((with_reducible refine blknew' _ _ _ ?_); (simp <;> omega)) | with_reducible refine blkal ?_ _))) ?_; rintro e3 w3 ⟨rfl, kb3, hC⟩; have k0 := hC.blk (b := w.heap.size) (by simp <;> omega) (x := .cells #[.int .i64 f.1, .int .i64 f.2.1, .int .u32 f.2.2] 33 (0, 0)) (by repeat (first | with_reducible assumption | with_reducible refine pls_block _ _ ?_ | with_reducible apply blkset2 | with_reducible apply blkset1 | ((with_reducible refine blksetN ?_ ?_ _); (focus (simp <;> omega))) | with_reducible exact blknew _ _ | ((with_reducible refine blknew' _ _ _ ?_); (simp <;> omega)) | with_reducible refine blkal ?_ _)); have k1 := hC.blk (b := w.heap.size + 1) (by simp <;> omega) (x := .cells #[.int .i64 nN, .int .u32 e] 31 (0, 0)) (by repeat (first | with_reducible assumption | with_reducible refine pls_block _ _ ?_ | with_reducible apply blkset2 | with_reducible apply blkset1 | ((with_reducible refine blksetN ?_ ?_ _); (focus (simp <;> omega))) | with_reducible exact blknew _ _ | ((with_reducible refine blknew' _ _ _ ?_); (simp <;> omega)) | with_reducible refine blkal ?_ _)); have k2 := hC.blk (b := w.heap.size + 1 + 1) (by simp <;> omega) (x := .cells #[.int .i64 0, .int .i64 0] 28 (0, 0)) (by repeat (first | with_reducible assumption | with_reducible refine pls_block _ _ ?_ | with_reducible apply blkset2 | with_reducible apply blkset1 | ((with_reducible refine blksetN ?_ ?_ _); (focus (simp <;> omega))) | with_reducible exact blknew _ _ | ((with_reducible refine blknew' _ _ _ ?_); (simp <;> omega)) | with_reducible refine blkal ?_ _)); have hS := And.intro (blkc3 k0).1 (And.intro (blkc3 k0).2.1 (And.intro (blkc3 k0).2.2 (blkc2 k1))); have HB3 := Lib.hid (Below.trans (show Below w.heap.size w _ from (by (try with_reducible refine bsz ?_); repeat (first | with_reducible exact Below.refl _ _ | ((with_reducible refine bpre ?_); (try simp only [Array.append_assoc]); repeat (first | with_reducible exact Pre.refl _ | with_reducible exact Pre.base _ _ | with_reducible refine Pre.cons _ ?_)) | with_reducible assumption | ((with_reducible refine bsetr ?_); rfl) | with_reducible refine Below.setCell ?_ (by simp <;> omega) _ | with_reducible refine bpl ?_ _ _ | with_reducible refine bal ?_ _ | with_reducible refine bdrew1 ?_ | with_reducible refine bdrew ?_ _))) (hC.below (B := w.heap.size) (by simp <;> omega) (by simp <;> omega))); have K2 := Lib.hid k2; have KB3 := Lib.hid kb3; clear hC k0 k1 k2 kb3); go_wp2_with fail; refine hK.out _ _ ?_ (fun hHeld => ?_); (focus (first | exact hS | (simp [*, go_sem]; done) | fail)); clear hK K; (try simp only [Act.put, List.setIfInBounds_toArray, List.set_cons_zero, List.set_cons_succ]); refine wpAnyH_ready (rs := [6]) (by kernel_rfl) (by simp) ?_; refine AllReadyH.cons rfl (fun K hK => ?_) AllReadyH.nil; go_simp; (go_at_call 43; refine Calls.mono (ktold_ok _ 0 r _ (blk1 KB3.out).1) ?_; rintro e4 w4 ⟨rfl, hb⟩; have hS := And.intro (bkeep hb hHeld.1) (And.intro (bkeep hb hHeld.2.1) (And.intro (bkeep hb hHeld.2.2.1) (And.intro (bkeep hb hHeld.2.2.2.1) (bkeep hb hHeld.2.2.2.2)))); have k24 := bblk hb (blklt K2.out) K2.out; obtain ⟨z0, z1, zf0, zf1⟩ := blk2 k24; have z2 := blklt k24; have hb3 := HB3.out; have HB4 := Lib.hid (show Below w.heap.size w w4 from Below.trans (by (try with_reducible refine bsz ?_); repeat (first | with_reducible exact Below.refl _ _ | ((with_reducible refine bpre ?_); (try simp only [Array.append_assoc]); repeat (first | with_reducible exact Pre.refl _ | with_reducible exact Pre.base _ _ | with_reducible refine Pre.cons _ ?_)) | with_reducible assumption | ((with_reducible refine bsetr ?_); rfl) | with_reducible refine Below.setCell ?_ (by simp <;> omega) _ | with_reducible refine bpl ?_ _ _ | with_reducible refine bal ?_ _ | with_reducible refine bdrew1 ?_ | with_reducible refine bdrew ?_ _)) (hb.mono (by have := hb3.size; simp <;> omega))); clear hb hb3); go_wp2_with fail; refine hK.out _ _ ?_ (fun hHeld => ?_); (focus (first | exact hS | (simp [*, go_sem]; done) | fail)); clear hK K; (try simp only [Act.put, List.setIfInBounds_toArray, List.set_cons_zero, List.set_cons_succ]); refine rg_take 7 (some 31) (v := ?_) rfl (by kernel_rfl) (by kernel_rfl) (by kernel_rfl) (by kernel_rfl) (fun _ _ _ h => h) (Or.inl ⟨by kernel_rfl, ?_⟩) (by assumption) ?_; rotate_left; (focus (intro w' hSw; (try dsimp only at hSw); go_simp; (try with_reducible rfl))); (try simp only [Act.put, List.setIfInBounds_toArray, List.set_cons_zero, List.set_cons_succ]); refine rg_take 8 (some 32) (v := ?_) rfl (by kernel_rfl) (by kernel_rfl) (by kernel_rfl) (by kernel_rfl) (fun _ _ _ h => h) (Or.inl ⟨by kernel_rfl, ?_⟩) (by assumption) ?_; rotate_left; (focus (intro w' hSw; (try dsimp only at hSw); go_simp; (try with_reducible rfl))); (try simp only [Act.put, List.setIfInBounds_toArray, List.set_cons_zero, List.set_cons_succ]); refine wpAnyH_ready (rs := [9]) (by kernel_rfl) (by simp) ?_; refine AllReadyH.cons rfl (fun K hK => ?_) AllReadyH.nil; (try go_simp); refine hK.out _ _ ?_ (fun hHeld => ?_); (focus (first | exact hS | (simp [*, go_sem]; done) | fail)); clear hK K; (try simp only [Act.put, List.setIfInBounds_toArray, List.set_cons_zero, List.set_cons_succ]); refine rg_take 10 (some 5) (v := ?_) rfl (by kernel_rfl) (by kernel_rfl) (by kernel_rfl) (by kernel_rfl) (fun _ _ _ h => h) (Or.inl ⟨by kernel_rfl, ?_⟩) (by assumption) ?_; rotate_left; (focus (intro w' hSw; (try dsimp only at hSw); go_simp; (try with_reducible rfl))); (try simp only [Act.put, List.setIfInBounds_toArray, List.set_cons_zero, List.set_cons_succ]); refine wpAnyH_done (by kernel_rfl) ?_ _)
  clear hHeld
  have hb4 := HB4.out
  go_wp2_with fail
  exact bodyPost_ret (v := .tuple #[.agg #[.int .i64 r.1, .int .i64 r.2], .int .i64 0]) (by simp [results, Try.results10, go_sem, *]) rfl ⟨by rw [hr.out, hc.out], (by (try with_reducible refine bsz ?_); repeat (first | with_reducible exact Below.refl _ _ | ((with_reducible refine bpre ?_); (try simp only [Array.append_assoc]); repeat (first | with_reducible exact Pre.refl _ | with_reducible exact Pre.base _ _ | with_reducible refine Pre.cons _ ?_)) | with_reducible assumption | ((with_reducible refine bsetr ?_); rfl) | with_reducible refine Below.setCell ?_ (by simp <;> omega) _ | with_reducible refine bpl ?_ _ _ | with_reducible refine bal ?_ _ | with_reducible refine bdrew1 ?_ | with_reducible refine bdrew ?_ _))⟩
end Go.Proofs.Ytkfjlimlodbcgaa

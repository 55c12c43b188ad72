/- impl.ValueIn. -/
import Derived.Test.YtkfjlimlodbcgaaVa
import Derived.Test.YtkfjlimlodbcgaaVr
namespace Go.Proofs.Ytkfjlimlodbcgaa
open Go.ChangeShapes Go.WideShapes Go.RowKit
set_option linter.unusedVariables false
set_option linter.unusedSimpArgs false
attribute [local irreducible] Calls
/-- The code and the value. -/
def viD (g : Flg) (t : Trm) : Int × Int := dns g.1.toNat g.2.1.toNat g.2.2 t.1
def viP (tn te s : Int) (T : List Trm) (g : Flg) : Int := if sumOk tn te s T && flV g then (if eq2 g.1 (tyE g) tn te then (if g.2.1 < s then 2 else 0) else 4) else 1
def viC (tn te s : Int) (T : List Trm) (g : Flg) : Int := if viP tn te s T g = 0 then rC (vO (viD g) T) else viP tn te s T g
def viR (tn te s : Int) (T : List Trm) (g : Flg) : Int × Int := if viP tn te s T g = 0 then rD (vO (viD g) T) else (0, 0)
theorem vi_no {tn te s : Int} {T : List Trm} {g : Flg} {c : Int} (h : viP tn te s T g = c) (hc : c ≠ 0) : viC tn te s T g = c ∧ viR tn te s T g = (0, 0) := by
  unfold viC viR
  rw [h, if_neg hc, if_neg hc]
  exact ⟨rfl, rfl⟩
theorem vi_yes {tn te s : Int} {T : List Trm} {g : Flg} (h : viP tn te s T g = 0) : viC tn te s T g = rC (vO (viD g) T) ∧ viR tn te s T g = rD (vO (viD g) T) := by
  unfold viC viR
  rw [h, if_pos rfl, if_pos rfl]
  exact ⟨rfl, rfl⟩
theorem dns_in {k n : Nat} {e : Int} {f : Flg} (hk : k ≤ 3) (hn : n ≤ 5) (h1 : k ≤ f.2.1.toNat) (h2 : f.2.1.toNat ≤ n) : inF (dns k n e f) := by
  obtain ⟨v1, b1, c1, c2⟩ := dns_vl (k := k) (n := n) (e := e) (f := f) hk hn h1 h2
  exact (v1.small c1 (by omega) (by omega)).2
theorem vi_terms {tn te s : Int} {T : List Trm} {g : Flg} (hs : sumOk tn te s T = true) (hv : flV g = true) (hg : g.1 = tn) (hle : s ≤ g.2.1) : (∀ t ∈ T, inF (viD g t) ∧ inF t.2) ∧ ∀ t ∈ T, flV t.1 = true ∧ t.1.1 = g.1 ∧ t.1.2.1 ≤ g.2.1 := by
  have hgv := (flV_iff g).1 hv
  have h2 : ∀ t ∈ T, flV t.1 = true ∧ t.1.1 = g.1 ∧ t.1.2.1 ≤ g.2.1 := fun t ht => by
    have h := okT_iff.1 (sumOk_mem hs ht)
    have hf := fitsB_iff.1 h.2.1
    exact ⟨h.1, by rw [hf.2.1, hg], by rw [hf.1]; exact hle⟩
  refine ⟨fun t ht => ⟨?_, ?_⟩, h2⟩
  · obtain ⟨a1, a2, a3⟩ := h2 t ht
    have a4 := (flV_iff t.1).1 a1
    unfold viD
    exact dns_in (by omega) (by omega) (by omega) (by omega)
  · exact inF_of_ok (okT_iff.1 (sumOk_mem hs ht)).2.2.2.1
set_option maxHeartbeats 2000000 in
theorem ValueIn_any (w : World) (tn te s : Int) (T : List Trm) (v : Value) (g : Flg) (hT : Lst shTerm w T v) (he : 0 ≤ te ∧ te ≤ 4294967295) (hgo : okFlag g) :
    Calls Try.prog 15 #[.agg #[.int .i64 tn, .int .u32 te, .int .i64 s, v], .agg #[.int .i64 g.1, .int .i64 g.2.1, .int .u32 g.2.2]] w fun r w' => r = .returned (.tuple #[.agg #[.int .i64 (viR tn te s T g).1, .int .i64 (viR tn te s T g).2], .int .i64 (viC tn te s T g)]) ∧ Below w.heap.size w w' := by
  have HT := Lib.hid hT
  have HGO := Lib.hid hgo
  have HE := Lib.hid he
  obtain ⟨A, cap, rfl, hcc, hm, hok, _⟩ := lstTerm hT
  have HOK : Hid (∀ d ∈ T, okTerm d) := Lib.hid hok
  clear hT hok
  cases h1 : sumOk tn te s T
  · obtain ⟨hc0, hr0⟩ := vi_no (tn := tn) (te := te) (s := s) (T := T) (g := g) (c := 1) (by unfold viP; rw [h1]; rfl) (by decide)
    have hc := Lib.hid hc0
    have hr := Lib.hid hr0
    have H1 := Lib.hid h1
    clear h1 hc0 hr0 hgo he
    go_enter Try.func15, Try.ntmps15
    go_wp2_with (first | (go_at_call 51; refine Calls.mono (ValidSum_any _ tn te s T _ (HT.out.below (by (try with_reducible refine bsz ?_); repeat (first | with_reducible exact Below.refl _ _ | ((with_reducible refine bpre ?_); (try simp only [Array.append_assoc]); repeat (first | with_reducible exact Pre.refl _ | with_reducible exact Pre.base _ _ | with_reducible refine Pre.cons _ ?_)) | with_reducible assumption | ((with_reducible refine bsetr ?_); rfl) | with_reducible refine Below.setCell ?_ (by simp <;> omega) _ | with_reducible refine bpl ?_ _ _ | with_reducible refine bal ?_ _ | with_reducible refine bdrew1 ?_ | with_reducible refine bdrew ?_ _))) HE.out) ?_; rw [H1.out]; rintro e w1 ⟨rfl, hb⟩; obtain ⟨X, m, rfl⟩ := plsOf hb; clear hb))
    exact bodyPost_ret (v := .tuple #[.agg #[.int .i64 0, .int .i64 0], .int .i64 1]) (by simp [results, Try.results15, go_sem]) rfl ⟨by rw [hr.out, hc.out], (by (try with_reducible refine bsz ?_); repeat (first | with_reducible exact Below.refl _ _ | ((with_reducible refine bpre ?_); (try simp only [Array.append_assoc]); repeat (first | with_reducible exact Pre.refl _ | with_reducible exact Pre.base _ _ | with_reducible refine Pre.cons _ ?_)) | with_reducible assumption | ((with_reducible refine bsetr ?_); rfl) | with_reducible refine Below.setCell ?_ (by simp <;> omega) _ | with_reducible refine bpl ?_ _ _ | with_reducible refine bal ?_ _ | with_reducible refine bdrew1 ?_ | with_reducible refine bdrew ?_ _))⟩
  have H1 := Lib.hid h1
  cases h2 : flV g
  · obtain ⟨hc0, hr0⟩ := vi_no (tn := tn) (te := te) (s := s) (T := T) (g := g) (c := 1) (by unfold viP; rw [h1, h2]; rfl) (by decide)
    have hc := Lib.hid hc0
    have hr := Lib.hid hr0
    have H2 : Hid (badFl g = true) := Lib.hid (by unfold badFl; rw [h2]; rfl)
    clear h1 h2 hc0 hr0 hgo he
    go_enter Try.func15, Try.ntmps15
    go_wp2_with (first | (go_at_call 51; refine Calls.mono (ValidSum_any _ tn te s T _ (HT.out.below (by (try with_reducible refine bsz ?_); repeat (first | with_reducible exact Below.refl _ _ | ((with_reducible refine bpre ?_); (try simp only [Array.append_assoc]); repeat (first | with_reducible exact Pre.refl _ | with_reducible exact Pre.base _ _ | with_reducible refine Pre.cons _ ?_)) | with_reducible assumption | ((with_reducible refine bsetr ?_); rfl) | with_reducible refine Below.setCell ?_ (by simp <;> omega) _ | with_reducible refine bpl ?_ _ _ | with_reducible refine bal ?_ _ | with_reducible refine bdrew1 ?_ | with_reducible refine bdrew ?_ _))) HE.out) ?_; rw [H1.out]; rintro e w1 ⟨rfl, hb⟩; obtain ⟨X, m, rfl⟩ := plsOf hb; clear hb) | (go_at_call 41; refine Calls.mono (badFlag_i _ g HGO.out) ?_; rw [H2.out]; rintro e w1 ⟨rfl, hb⟩; obtain ⟨X, m, rfl⟩ := plsOf hb; clear hb))
    exact bodyPost_ret (v := .tuple #[.agg #[.int .i64 0, .int .i64 0], .int .i64 1]) (by simp [results, Try.results15, go_sem]) rfl ⟨by rw [hr.out, hc.out], (by (try with_reducible refine bsz ?_); repeat (first | with_reducible exact Below.refl _ _ | ((with_reducible refine bpre ?_); (try simp only [Array.append_assoc]); repeat (first | with_reducible exact Pre.refl _ | with_reducible exact Pre.base _ _ | with_reducible refine Pre.cons _ ?_)) | with_reducible assumption | ((with_reducible refine bsetr ?_); rfl) | with_reducible refine Below.setCell ?_ (by simp <;> omega) _ | with_reducible refine bpl ?_ _ _ | with_reducible refine bal ?_ _ | with_reducible refine bdrew1 ?_ | with_reducible refine bdrew ?_ _))⟩
  have H2 : Hid (badFl g = false) := Lib.hid (by unfold badFl; rw [h2]; rfl)
  have hgv := (flV_iff g).1 h2
  obtain ⟨TG, hTG⟩ : ∃ TG, Hid (tyE g = TG) := ⟨_, Lib.hid rfl⟩
  have HTG : Hid (∀ w, Calls Try.prog 45 #[.agg #[.int .i64 g.1, .int .i64 g.2.1, .int .u32 g.2.2]] w fun e0 w' => e0 = .returned (.agg #[.int .i64 g.1, .int .u32 TG]) ∧ Below w.heap.size w w') := Lib.hid fun w => by
    have := typeOf_i w g (by omega)
    rw [hTG.out] at this
    exact this
  have hP0 : viP tn te s T g = if eq2 g.1 TG tn te then (if g.2.1 < s then 2 else 0) else 4 := by unfold viP; rw [h1, h2, hTG.out]; rfl
  cases h3 : eq2 g.1 TG tn te
  · obtain ⟨hc0, hr0⟩ := vi_no (tn := tn) (te := te) (s := s) (T := T) (g := g) (c := 4) (by rw [hP0, h3]; rfl) (by decide)
    have hc := Lib.hid hc0
    have hr := Lib.hid hr0
    clear h1 h2 hc0 hr0 hgo he hP0 hgv
    go_enter Try.func15, Try.ntmps15
    go_wp2_with (first | (go_at_call 51; refine Calls.mono (ValidSum_any _ tn te s T _ (HT.out.below (by (try with_reducible refine bsz ?_); repeat (first | with_reducible exact Below.refl _ _ | ((with_reducible refine bpre ?_); (try simp only [Array.append_assoc]); repeat (first | with_reducible exact Pre.refl _ | with_reducible exact Pre.base _ _ | with_reducible refine Pre.cons _ ?_)) | with_reducible assumption | ((with_reducible refine bsetr ?_); rfl) | with_reducible refine Below.setCell ?_ (by simp <;> omega) _ | with_reducible refine bpl ?_ _ _ | with_reducible refine bal ?_ _ | with_reducible refine bdrew1 ?_ | with_reducible refine bdrew ?_ _))) HE.out) ?_; rw [H1.out]; rintro e w1 ⟨rfl, hb⟩; obtain ⟨X, m, rfl⟩ := plsOf hb; clear hb) | (go_at_call 41; refine Calls.mono (badFlag_i _ g HGO.out) ?_; rw [H2.out]; rintro e w1 ⟨rfl, hb⟩; obtain ⟨X, m, rfl⟩ := plsOf hb; clear hb))
    (refine wp_region_held_drew (S := (fun w' => w'.cell? ⟨w.heap.size, 0, none⟩ = some (.int .i64 tn) ∧ w'.cell? ⟨w.heap.size, 1, none⟩ = some (.int .u32 te) ∧ w'.cell? ⟨w.heap.size + 1, 0, none⟩ = some (.int .i64 g.1) ∧ w'.cell? ⟨w.heap.size + 1, 1, none⟩ = some (.int .i64 g.2.1) ∧ w'.cell? ⟨w.heap.size + 1, 2, none⟩ = some (.int .u32 g.2.2))) (by kernel_rfl) ?_ (fun hHeld => ?_); (focus (first | exact hS | (simp [*, go_sem]; done) | fail)); refine rg_take 0 (some 17) (v := ?_) rfl (by kernel_rfl) (by kernel_rfl) (by kernel_rfl) (by kernel_rfl) (fun _ _ _ h => h) (Or.inl ⟨by kernel_rfl, ?_⟩) (by assumption) ?_; rotate_left; (focus (intro w' hSw; (try dsimp only at hSw); go_simp; (try with_reducible rfl))); (try simp only [Act.put, List.setIfInBounds_toArray, List.set_cons_zero, List.set_cons_succ]); refine rg_take 2 (some 19) (v := ?_) rfl (by kernel_rfl) (by kernel_rfl) (by kernel_rfl) (by kernel_rfl) (fun _ _ _ h => h) (Or.inl ⟨by kernel_rfl, ?_⟩) (by assumption) ?_; rotate_left; (focus (intro w' hSw; (try dsimp only at hSw); go_simp; (try with_reducible rfl))); (try simp only [Act.put, List.setIfInBounds_toArray, List.set_cons_zero, List.set_cons_succ]); refine rg_take 3 (some 20) (v := ?_) rfl (by kernel_rfl) (by kernel_rfl) (by kernel_rfl) (by kernel_rfl) (fun _ _ _ h => h) (Or.inl ⟨by kernel_rfl, ?_⟩) (by assumption) ?_; rotate_left; (focus (intro w' hSw; (try dsimp only at hSw); go_simp; (try with_reducible rfl))); (try simp only [Act.put, List.setIfInBounds_toArray, List.set_cons_zero, List.set_cons_succ]); refine wpAnyH_ready (rs := [1]) (by kernel_rfl) (by simp) ?_; refine AllReadyH.cons rfl (fun K hK => ?_) AllReadyH.nil; go_simp; (go_at_call 45; refine Calls.mono (HTG.out _) ?_; rintro e w1 ⟨rfl, hb⟩; obtain ⟨X1, m1, rfl⟩ := plsOf hb; clear hb); go_wp2_with fail; refine hK.out _ _ ?_ (fun hHeld => ?_); (focus (first | exact hS | (simp [*, go_sem]; done) | fail)); clear hK K; (try simp only [Act.put, List.setIfInBounds_toArray, List.set_cons_zero, List.set_cons_succ]); refine rg_take 4 (some 21) (v := ?_) rfl (by kernel_rfl) (by kernel_rfl) (by kernel_rfl) (by kernel_rfl) (fun _ _ _ h => h) (Or.inl ⟨by kernel_rfl, ?_⟩) (by assumption) ?_; rotate_left; (focus (intro w' hSw; (try dsimp only at hSw); go_simp; (try with_reducible rfl))); (try simp only [Act.put, List.setIfInBounds_toArray, List.set_cons_zero, List.set_cons_succ]); refine rg_take 5 (some 16) (v := ?_) rfl (by kernel_rfl) (by kernel_rfl) (by kernel_rfl) (by kernel_rfl) (fun _ _ _ h => h) (Or.inl ⟨by kernel_rfl, ?_⟩) (by assumption) ?_; rotate_left; (focus (intro w' hSw; (try dsimp only at hSw); go_simp; (try with_reducible rfl))); (try simp only [Act.put, List.setIfInBounds_toArray, List.set_cons_zero, List.set_cons_succ]); refine wpAnyH_done (by kernel_rfl) ?_ _)
    clear hHeld
    go_wp2_with fail
    exact bodyPost_ret (v := .tuple #[.agg #[.int .i64 0, .int .i64 0], .int .i64 4]) (by simp [results, Try.results15, go_sem]) rfl ⟨by rw [hr.out, hc.out], (by (try with_reducible refine bsz ?_); repeat (first | with_reducible exact Below.refl _ _ | ((with_reducible refine bpre ?_); (try simp only [Array.append_assoc]); repeat (first | with_reducible exact Pre.refl _ | with_reducible exact Pre.base _ _ | with_reducible refine Pre.cons _ ?_)) | with_reducible assumption | ((with_reducible refine bsetr ?_); rfl) | with_reducible refine Below.setCell ?_ (by simp <;> omega) _ | with_reducible refine bpl ?_ _ _ | with_reducible refine bal ?_ _ | with_reducible refine bdrew1 ?_ | with_reducible refine bdrew ?_ _))⟩
  by_cases h4 : g.2.1 < s
  · obtain ⟨hc0, hr0⟩ := vi_no (tn := tn) (te := te) (s := s) (T := T) (g := g) (c := 2) (by rw [hP0, h3, if_pos h4]; rfl) (by decide)
    have hc := Lib.hid hc0
    have hr := Lib.hid hr0
    clear h1 h2 hc0 hr0 hgo he hP0 hgv
    go_enter Try.func15, Try.ntmps15
    go_wp2_with (first | (go_at_call 51; refine Calls.mono (ValidSum_any _ tn te s T _ (HT.out.below (by (try with_reducible refine bsz ?_); repeat (first | with_reducible exact Below.refl _ _ | ((with_reducible refine bpre ?_); (try simp only [Array.append_assoc]); repeat (first | with_reducible exact Pre.refl _ | with_reducible exact Pre.base _ _ | with_reducible refine Pre.cons _ ?_)) | with_reducible assumption | ((with_reducible refine bsetr ?_); rfl) | with_reducible refine Below.setCell ?_ (by simp <;> omega) _ | with_reducible refine bpl ?_ _ _ | with_reducible refine bal ?_ _ | with_reducible refine bdrew1 ?_ | with_reducible refine bdrew ?_ _))) HE.out) ?_; rw [H1.out]; rintro e w1 ⟨rfl, hb⟩; obtain ⟨X, m, rfl⟩ := plsOf hb; clear hb) | (go_at_call 41; refine Calls.mono (badFlag_i _ g HGO.out) ?_; rw [H2.out]; rintro e w1 ⟨rfl, hb⟩; obtain ⟨X, m, rfl⟩ := plsOf hb; clear hb))
    (refine wp_region_held_drew (S := (fun w' => w'.cell? ⟨w.heap.size, 0, none⟩ = some (.int .i64 tn) ∧ w'.cell? ⟨w.heap.size, 1, none⟩ = some (.int .u32 te) ∧ w'.cell? ⟨w.heap.size + 1, 0, none⟩ = some (.int .i64 g.1) ∧ w'.cell? ⟨w.heap.size + 1, 1, none⟩ = some (.int .i64 g.2.1) ∧ w'.cell? ⟨w.heap.size + 1, 2, none⟩ = some (.int .u32 g.2.2))) (by kernel_rfl) ?_ (fun hHeld => ?_); (focus (first | exact hS | (simp [*, go_sem]; done) | fail)); refine rg_take 0 (some 17) (v := ?_) rfl (by kernel_rfl) (by kernel_rfl) (by kernel_rfl) (by kernel_rfl) (fun _ _ _ h => h) (Or.inl ⟨by kernel_rfl, ?_⟩) (by assumption) ?_; rotate_left; (focus (intro w' hSw; (try dsimp only at hSw); go_simp; (try with_reducible rfl))); (try simp only [Act.put, List.setIfInBounds_toArray, List.set_cons_zero, List.set_cons_succ]); refine rg_take 2 (some 19) (v := ?_) rfl (by kernel_rfl) (by kernel_rfl) (by kernel_rfl) (by kernel_rfl) (fun _ _ _ h => h) (Or.inl ⟨by kernel_rfl, ?_⟩) (by assumption) ?_; rotate_left; (focus (intro w' hSw; (try dsimp only at hSw); go_simp; (try with_reducible rfl))); (try simp only [Act.put, List.setIfInBounds_toArray, List.set_cons_zero, List.set_cons_succ]); refine rg_take 3 (some 20) (v := ?_) rfl (by kernel_rfl) (by kernel_rfl) (by kernel_rfl) (by kernel_rfl) (fun _ _ _ h => h) (Or.inl ⟨by kernel_rfl, ?_⟩) (by assumption) ?_; rotate_left; (focus (intro w' hSw; (try dsimp only at hSw); go_simp; (try with_reducible rfl))); (try simp only [Act.put, List.setIfInBounds_toArray, List.set_cons_zero, List.set_cons_succ]); refine wpAnyH_ready (rs := [1]) (by kernel_rfl) (by simp) ?_; refine AllReadyH.cons rfl (fun K hK => ?_) AllReadyH.nil; go_simp; (go_at_call 45; refine Calls.mono (HTG.out _) ?_; rintro e w1 ⟨rfl, hb⟩; obtain ⟨X1, m1, rfl⟩ := plsOf hb; clear hb); go_wp2_with fail; refine hK.out _ _ ?_ (fun hHeld => ?_); (focus (first | exact hS | (simp [*, go_sem]; done) | fail)); clear hK K; (try simp only [Act.put, List.setIfInBounds_toArray, List.set_cons_zero, List.set_cons_succ]); refine rg_take 4 (some 21) (v := ?_) rfl (by kernel_rfl) (by kernel_rfl) (by kernel_rfl) (by kernel_rfl) (fun _ _ _ h => h) (Or.inl ⟨by kernel_rfl, ?_⟩) (by assumption) ?_; rotate_left; (focus (intro w' hSw; (try dsimp only at hSw); go_simp; (try with_reducible rfl))); (try simp only [Act.put, List.setIfInBounds_toArray, List.set_cons_zero, List.set_cons_succ]); refine rg_take 5 (some 16) (v := ?_) rfl (by kernel_rfl) (by kernel_rfl) (by kernel_rfl) (by kernel_rfl) (fun _ _ _ h => h) (Or.inl ⟨by kernel_rfl, ?_⟩) (by assumption) ?_; rotate_left; (focus (intro w' hSw; (try dsimp only at hSw); go_simp; (try with_reducible rfl))); (try simp only [Act.put, List.setIfInBounds_toArray, List.set_cons_zero, List.set_cons_succ]); refine wpAnyH_done (by kernel_rfl) ?_ _)
    clear hHeld
    go_wp2_with fail
    exact bodyPost_ret (v := .tuple #[.agg #[.int .i64 0, .int .i64 0], .int .i64 2]) (by simp [results, Try.results15, go_sem]) rfl ⟨by rw [hr.out, hc.out], (by (try with_reducible refine bsz ?_); repeat (first | with_reducible exact Below.refl _ _ | ((with_reducible refine bpre ?_); (try simp only [Array.append_assoc]); repeat (first | with_reducible exact Pre.refl _ | with_reducible exact Pre.base _ _ | with_reducible refine Pre.cons _ ?_)) | with_reducible assumption | ((with_reducible refine bsetr ?_); rfl) | with_reducible refine Below.setCell ?_ (by simp <;> omega) _ | with_reducible refine bpl ?_ _ _ | with_reducible refine bal ?_ _ | with_reducible refine bdrew1 ?_ | with_reducible refine bdrew ?_ _))⟩
  have hP : viP tn te s T g = 0 := by rw [hP0, h3, if_neg h4]; rfl
  obtain ⟨hc0, hr0⟩ := vi_yes hP
  have hgt : g.1 = tn := by simp [eq2] at h3; exact h3.1
  obtain ⟨hin, htm⟩ := vi_terms h1 h2 hgt (by omega)
  have hl : T.length ≤ 1000 := by have := (sumOk_iff.1 h1).2.2.1; omega
  have HIN := Lib.hid hin
  obtain ⟨kN, hk⟩ := Int.eq_ofNat_of_zero_le hgv.1.1
  obtain ⟨nN, hn⟩ := Int.eq_ofNat_of_zero_le hgv.2.1.1
  have hko := HOK.out
  have HDN : Hid (∀ t ∈ T, ∀ W, Calls Try.prog 46 #[.agg #[.int .i64 t.1.1, .int .i64 t.1.2.1, .int .u32 t.1.2.2], .agg #[.int .i64 g.1, .int .i64 g.2.1, .int .u32 g.2.2]] W fun r w' => r = .returned (.agg #[.int .i64 (viD g t).1, .int .i64 (viD g t).2]) ∧ Below W.heap.size W w') := Lib.hid fun t ht W => by
    obtain ⟨a1, a2, a3⟩ := htm t ht
    have := density_any W kN nN g.2.2 t.1 (by omega) (by omega) (by omega) hgo.2.2 a1 (hko t ht).1 (by omega) (by omega)
    unfold viD
    rw [hk, hn]
    exact this
  have hl2 := hl
  have hc := Lib.hid hc0
  have hr := Lib.hid hr0
  have HTR := Lib.hid (vF_tr (viD g) T hin)
  obtain ⟨⟨x, gg⟩, hx⟩ : ∃ z, Hid (vF (viD g) T = z) := ⟨_, Lib.hid rfl⟩
  rw [hx.out] at HTR
  have HVAL : Hid (∀ W b r, Below w.heap.size w W → w.heap.size ≤ b → r ≠ b → W.heap[b]? = some (.cells #[.bool false] 79 (0, 0)) → W.heap[r]? = some (.cells #[.int .i64 0, .int .i64 0] 28 (0, 0)) → Calls Try.prog 52 #[.pointer (some ⟨b, 0, none⟩), .agg #[.int .i64 tn, .int .u32 te, .int .i64 s, .slice A T.length cap], .agg #[.int .i64 g.1, .int .i64 g.2.1, .int .u32 g.2.2]] W fun e w' => e = .returned (.agg #[.int .i64 x.1, .int .i64 x.2]) ∧ w'.cell? ⟨b, 0, none⟩ = some (.bool gg) ∧ b < w'.heap.size ∧ w'.heap[r]? = some (.cells #[.int .i64 0, .int .i64 0] 28 (0, 0)) ∧ Below w.heap.size w w') := Lib.hid fun W b r hW hwb hne hb hr => by
    have := value_any W b 0 false tn te s T _ g (viD g) (HT.out.below hW) hl2 HIN.out HDN.out (blk1 hb).1 (blk1 hb).2
    rw [hx.out, Bool.false_or] at this
    refine this.mono ?_
    rintro e w' ⟨rfl, hfl⟩
    exact ⟨rfl, hfl.flag (blk1 hb).1, Nat.lt_of_lt_of_le (blklt hb) hfl.size, (Below.block hfl r (blklt hr)).trans (blkset hr hne _), Below.trans hW (Below.trans (Below.setCell (Below.refl _ _) hwb _) (hfl.mono hW.size))⟩
  obtain ⟨y, hy⟩ : ∃ y, Hid (rD (vO (viD g) T) = y) := ⟨_, Lib.hid rfl⟩
  obtain ⟨cc, hcc2⟩ : ∃ y, Hid (rC (vO (viD g) T) = y) := ⟨_, Lib.hid rfl⟩
  rw [hy.out] at hr
  rw [hcc2.out] at hc
  have HTOLD : Hid (∀ W b, b < W.heap.size → W.cell? ⟨b, 0, none⟩ = some (.bool gg) → Calls Try.prog 43 #[.pointer (some ⟨b, 0, none⟩), .agg #[.int .i64 x.1, .int .i64 x.2]] W fun e w' => e = .returned (.tuple #[.agg #[.int .i64 y.1, .int .i64 y.2], .int .i64 cc]) ∧ Below W.heap.size W w') := Lib.hid fun W b h1 h2 => by
    have := ktold_any b 0 gg x _ W h1 h2 HTR.out
    rw [hy.out, hcc2.out] at this
    exact this
  clear h1 h2 hc0 hr0 hgo he hP0 hgv hP hin htm hk hn hko hl hgt
  go_enter Try.func15, Try.ntmps15
  go_wp2_with (first | (go_at_call 51; refine Calls.mono (ValidSum_any _ tn te s T _ (HT.out.below (by (try with_reducible refine bsz ?_); repeat (first | with_reducible exact Below.refl _ _ | ((with_reducible refine bpre ?_); (try simp only [Array.append_assoc]); repeat (first | with_reducible exact Pre.refl _ | with_reducible exact Pre.base _ _ | with_reducible refine Pre.cons _ ?_)) | with_reducible assumption | ((with_reducible refine bsetr ?_); rfl) | with_reducible refine Below.setCell ?_ (by simp <;> omega) _ | with_reducible refine bpl ?_ _ _ | with_reducible refine bal ?_ _ | with_reducible refine bdrew1 ?_ | with_reducible refine bdrew ?_ _))) HE.out) ?_; rw [H1.out]; rintro e w1 ⟨rfl, hb⟩; obtain ⟨X, m, rfl⟩ := plsOf hb; clear hb) | (go_at_call 41; refine Calls.mono (badFlag_i _ g HGO.out) ?_; rw [H2.out]; rintro e w1 ⟨rfl, hb⟩; obtain ⟨X, m, rfl⟩ := plsOf hb; clear hb))
  (refine wp_region_held_drew (S := (fun w' => w'.cell? ⟨w.heap.size, 0, none⟩ = some (.int .i64 tn) ∧ w'.cell? ⟨w.heap.size, 1, none⟩ = some (.int .u32 te) ∧ w'.cell? ⟨w.heap.size + 1, 0, none⟩ = some (.int .i64 g.1) ∧ w'.cell? ⟨w.heap.size + 1, 1, none⟩ = some (.int .i64 g.2.1) ∧ w'.cell? ⟨w.heap.size + 1, 2, none⟩ = some (.int .u32 g.2.2))) (by kernel_rfl) ?_ (fun hHeld => ?_); (focus (first | exact hS | (simp [*, go_sem]; done) | fail)); refine rg_take 0 (some 17) (v := ?_) rfl (by kernel_rfl) (by kernel_rfl) (by kernel_rfl) (by kernel_rfl) (fun _ _ _ h => h) (Or.inl ⟨by kernel_rfl, ?_⟩) (by assumption) ?_; rotate_left; (focus (intro w' hSw; (try dsimp only at hSw); go_simp; (try with_reducible rfl))); (try simp only [Act.put, List.setIfInBounds_toArray, List.set_cons_zero, List.set_cons_succ]); refine rg_take 2 (some 19) (v := ?_) rfl (by kernel_rfl) (by kernel_rfl) (by kernel_rfl) (by kernel_rfl) (fun _ _ _ h => h) (Or.inl ⟨by kernel_rfl, ?_⟩) (by assumption) ?_; rotate_left; (focus (intro w' hSw; (try dsimp only at hSw); go_simp; (try with_reducible rfl))); (try simp only [Act.put, List.setIfInBounds_toArray, List.set_cons_zero, List.set_cons_succ]); refine rg_take 3 (some 20) (v := ?_) rfl (by kernel_rfl) (by kernel_rfl) (by kernel_rfl) (by kernel_rfl) (fun _ _ _ h => h) (Or.inl ⟨by kernel_rfl, ?_⟩) (by assumption) ?_; rotate_left; (focus (intro w' hSw; (try dsimp only at hSw); go_simp; (try with_reducible rfl))); (try simp only [Act.put, List.setIfInBounds_toArray, List.set_cons_zero, List.set_cons_succ]); refine wpAnyH_ready (rs := [1]) (by kernel_rfl) (by simp) ?_; refine AllReadyH.cons rfl (fun K hK => ?_) AllReadyH.nil; go_simp; (go_at_call 45; refine Calls.mono (HTG.out _) ?_; rintro e w1 ⟨rfl, hb⟩; obtain ⟨X1, m1, rfl⟩ := plsOf hb; clear hb); go_wp2_with fail; refine hK.out _ _ ?_ (fun hHeld => ?_); (focus (first | exact hS | (simp [*, go_sem]; done) | fail)); clear hK K; (try simp only [Act.put, List.setIfInBounds_toArray, List.set_cons_zero, List.set_cons_succ]); refine rg_take 4 (some 21) (v := ?_) rfl (by kernel_rfl) (by kernel_rfl) (by kernel_rfl) (by kernel_rfl) (fun _ _ _ h => h) (Or.inl ⟨by kernel_rfl, ?_⟩) (by assumption) ?_; rotate_left; (focus (intro w' hSw; (try dsimp only at hSw); go_simp; (try with_reducible rfl))); (try simp only [Act.put, List.setIfInBounds_toArray, List.set_cons_zero, List.set_cons_succ]); refine rg_take 5 (some 16) (v := ?_) rfl (by kernel_rfl) (by kernel_rfl) (by kernel_rfl) (by kernel_rfl) (fun _ _ _ h => h) (Or.inl ⟨by kernel_rfl, ?_⟩) (by assumption) ?_; rotate_left; (focus (intro w' hSw; (try dsimp only at hSw); go_simp; (try with_reducible rfl))); (try simp only [Act.put, List.setIfInBounds_toArray, List.set_cons_zero, List.set_cons_succ]); refine wpAnyH_done (by kernel_rfl) ?_ _)
  clear hHeld
  go_wp2_with fail
  refine Calls.mono (HVAL.out _ _ (w.heap.size + 1 + 1) (by (try with_reducible refine bsz ?_); repeat (first | with_reducible exact Below.refl _ _ | ((with_reducible refine bpre ?_); (try simp only [Array.append_assoc]); repeat (first | with_reducible exact Pre.refl _ | with_reducible exact Pre.base _ _ | with_reducible refine Pre.cons _ ?_)) | with_reducible assumption | ((with_reducible refine bsetr ?_); rfl) | with_reducible refine Below.setCell ?_ (by simp <;> omega) _ | with_reducible refine bpl ?_ _ _ | with_reducible refine bal ?_ _ | with_reducible refine bdrew1 ?_ | with_reducible refine bdrew ?_ _)) (by omega) (by omega) (by repeat (first | with_reducible assumption | with_reducible refine pls_block _ _ ?_ | with_reducible apply blkset2 | with_reducible apply blkset1 | ((with_reducible refine blksetN ?_ ?_ _); (focus (simp <;> omega))) | with_reducible exact blknew _ _ | ((with_reducible refine blknew' _ _ _ ?_); (simp <;> omega)) | with_reducible refine blkal ?_ _)) (by repeat (first | with_reducible assumption | with_reducible refine pls_block _ _ ?_ | with_reducible apply blkset2 | with_reducible apply blkset1 | ((with_reducible refine blksetN ?_ ?_ _); (focus (simp <;> omega))) | with_reducible exact blknew _ _ | ((with_reducible refine blknew' _ _ _ ?_); (simp <;> omega)) | with_reducible refine blkal ?_ _))) ?_
  rintro e0 w3 ⟨rfl, hcg, hlt3, hk3, hB3⟩
  have HB3 := Lib.hid hB3
  have K3 := Lib.hid hk3
  have hz3 := hB3.size
  clear hB3 hk3
  go_wp2_with fail
  refine Calls.mono (HTOLD.out _ _ (by first | exact hlt3 | (simp; exact hlt3)) (by first | exact hcg | (simp; exact hcg))) ?_
  rintro e0 w4 ⟨rfl, hb⟩
  have k4 := bblk hb (blklt K3.out) K3.out
  obtain ⟨r0, r1, r2, r3⟩ := blk2 k4
  have y4 := blklt k4
  have hb4 : Below w.heap.size w w4 := HB3.out.trans (hb.mono hz3)
  clear hb k4
  go_wp2_with fail
  exact bodyPost_ret (v := .tuple #[.agg #[.int .i64 y.1, .int .i64 y.2], .int .i64 cc]) (by simp [results, Try.results15, go_sem, *]) rfl ⟨by rw [hr.out, hc.out], (by (try with_reducible refine bsz ?_); repeat (first | with_reducible exact Below.refl _ _ | ((with_reducible refine bpre ?_); (try simp only [Array.append_assoc]); repeat (first | with_reducible exact Pre.refl _ | with_reducible exact Pre.base _ _ | with_reducible refine Pre.cons _ ?_)) | with_reducible assumption | ((with_reducible refine bsetr ?_); rfl) | with_reducible refine Below.setCell ?_ (by simp <;> omega) _ | with_reducible refine bpl ?_ _ _ | with_reducible refine bal ?_ _ | with_reducible refine bdrew1 ?_ | with_reducible refine bdrew ?_ _))⟩
end Go.Proofs.Ytkfjlimlodbcgaa

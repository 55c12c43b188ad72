/- Two flags that should have one type: impl.flagsOk, impl.sameType of two, spec.l04Types. -/
import Derived.Test.YtfdobpeekipafaaVf
import Derived.Test.YtfdobpeekipafaaVs
namespace Go.Proofs.Ytfdobpeekipafaa
open Go.ChangeShapes Go.WideShapes Go.RowKit
set_option linter.unusedVariables false
set_option linter.unusedSimpArgs false
attribute [local irreducible] Calls
theorem lst_two {w : World} {g : Nat} {a b : Flg} {t : TypeId} (h : w.heap[g]? = some (.cells #[.int .i64 a.1, .int .i64 a.2.1, .int .u32 a.2.2, .int .i64 b.1, .int .i64 b.2.1, .int .u32 b.2.2] t (0, 0))) (ha : okFlag a) (hb : okFlag b) : Lst shFlag w [a, b] (.slice (some ⟨g, 0, none⟩) 2 2) :=
  (own_of_row (s := shFlag) flatFlag (fun d => rfl) (xs := [a, b]) (cap := 2) h (Nat.le_refl _) (by decide) (Nat.le_refl 6) rfl (by
    intro d hd
    rcases List.mem_cons.1 hd with rfl | hd
    · exact ha
    · have : d = b := List.mem_singleton.1 hd
      subst this; exact hb) (B := 0) (Nat.zero_le _)).lst
theorem flags2_any (w : World) (a b : Flg) (v : Value) (h : Lst shFlag w [a, b] v) : Calls Try.prog 60 #[v] w fun e w' => e = .returned (.int .i64 (if flV a && flV b then 0 else 1)) ∧ Below w.heap.size w w' := by
  have := flagsOk_any w [a, b] v h (by show (2 : Nat) ≤ _; decide)
  have e : flagsB [a, b] = (flV a && flV b) := by
    unfold flagsB anyB badFl
    simp only [List.any_cons, List.any_nil, Bool.or_false]
    cases flV a <;> cases flV b <;> rfl
  rw [e] at this
  exact this
theorem tyNe_self (a : Flg) : tyNe a a = false := by simp [tyNe, eq2]
theorem same2_any (w : World) (a b : Flg) (v : Value) (h : Lst shFlag w [a, b] v) (ha : 0 ≤ a.1 ∧ a.1 ≤ 5) (hb : 0 ≤ b.1 ∧ b.1 ≤ 5) : Calls Try.prog 61 #[v] w fun e w' => e = .returned (.bool (!tyNe a b)) ∧ Below w.heap.size w w' := by
  have := sameType_any w [a, b] v h (by show (2 : Nat) ≤ _; decide) (by
    intro d hd
    rcases List.mem_cons.1 hd with rfl | hd
    · exact ha
    · have : d = b := List.mem_singleton.1 hd
      subst this; exact hb)
  have e : sameTy [a, b] = !tyNe a b := by
    unfold sameTy anyB hdF
    simp [tyNe_self]
  rw [e] at this
  exact this
/-- The code of two flags that should have one type. -/
def tpC (a b : Flg) : Int := if flV a && flV b then (if tyNe a b then 4 else 0) else 1
theorem tyNe_eq (a b : Flg) : tyNe a b = !eq2 a.1 (tyE a) b.1 (tyE b) := by
  unfold tyNe
  congr 1
  rw [Bool.eq_iff_iff]
  simp only [eq2, decide_eq_true_eq]
  exact ⟨fun h => ⟨h.1.symm, h.2.symm⟩, fun h => ⟨h.1.symm, h.2.symm⟩⟩
theorem l04Types_any (w : World) (a b : Flg) (ha : okFlag a) (hb : okFlag b) : Calls Try.prog 56 #[.agg #[.int .i64 a.1, .int .i64 a.2.1, .int .u32 a.2.2], .agg #[.int .i64 b.1, .int .i64 b.2.1, .int .u32 b.2.2]] w fun e w' => e = .returned (.int .i64 (tpC a b)) ∧ Below w.heap.size w w' := by
  have ha2 := u32_wf ha.2.2
  have hb2 := u32_wf hb.2.2
  cases h1 : flV a
  · have hr : Hid (tpC a b = 1) := Lib.hid (by simp [tpC, h1])
    have H1 : Hid (flOk a.1 a.2.1 a.2.2 = false) := Lib.hid h1
    clear h1
    go_enter Try.func56, Try.ntmps56
    go_wp2_with (first | (go_at_call 47; refine Calls.mono (l03Ok_any a.1 a.2.1 a.2.2 _ ha2) ?_; rw [H1.out]; rintro e w1 ⟨rfl, hb⟩; obtain ⟨X, m, rfl⟩ := plsOf hb; clear hb))
    exact bodyPost_ret (v := .int .i64 1) (by simp [results, Try.results56, go_sem]) rfl ⟨by rw [hr.out], (by (try with_reducible refine bsz ?_); repeat (first | with_reducible exact Below.refl _ _ | ((with_reducible refine bpre ?_); (try simp only [Array.append_assoc]); repeat (first | with_reducible exact Pre.refl _ | with_reducible exact Pre.base _ _ | with_reducible refine Pre.cons _ ?_)) | with_reducible assumption | ((with_reducible refine bsetr ?_); rfl) | with_reducible refine Below.setCell ?_ (by simp <;> omega) _ | with_reducible refine bpl ?_ _ _ | with_reducible refine bal ?_ _ | with_reducible refine bdrew1 ?_ | with_reducible refine bdrew ?_ _))⟩
  have H1 : Hid (flOk a.1 a.2.1 a.2.2 = true) := Lib.hid h1
  cases h2 : flV b
  · have hr : Hid (tpC a b = 1) := Lib.hid (by simp [tpC, h1, h2])
    have H2 : Hid (flOk b.1 b.2.1 b.2.2 = false) := Lib.hid h2
    clear h1 h2
    go_enter Try.func56, Try.ntmps56
    go_wp2_with (first | (go_at_call 47; refine Calls.mono (l03Ok_any a.1 a.2.1 a.2.2 _ ha2) ?_; rw [H1.out]; rintro e w1 ⟨rfl, hb⟩; obtain ⟨X, m, rfl⟩ := plsOf hb; clear hb) | (go_at_call 47; refine Calls.mono (l03Ok_any b.1 b.2.1 b.2.2 _ hb2) ?_; rw [H2.out]; rintro e w1 ⟨rfl, hb⟩; obtain ⟨X, m, rfl⟩ := plsOf hb; clear hb))
    exact bodyPost_ret (v := .int .i64 1) (by simp [results, Try.results56, go_sem]) rfl ⟨by rw [hr.out], (by (try with_reducible refine bsz ?_); repeat (first | with_reducible exact Below.refl _ _ | ((with_reducible refine bpre ?_); (try simp only [Array.append_assoc]); repeat (first | with_reducible exact Pre.refl _ | with_reducible exact Pre.base _ _ | with_reducible refine Pre.cons _ ?_)) | with_reducible assumption | ((with_reducible refine bsetr ?_); rfl) | with_reducible refine Below.setCell ?_ (by simp <;> omega) _ | with_reducible refine bpl ?_ _ _ | with_reducible refine bal ?_ _ | with_reducible refine bdrew1 ?_ | with_reducible refine bdrew ?_ _))⟩
  have H2 : Hid (flOk b.1 b.2.1 b.2.2 = true) := Lib.hid h2
  have hab : 0 ≤ a.1 ∧ a.1 ≤ 5 := by have := (flV_iff _).1 h1; omega
  have hbb : 0 ≤ b.1 ∧ b.1 ≤ 5 := by have := (flV_iff _).1 h2; omega
  have hr0 : Hid (tpC a b = if tyNe a b then 4 else 0) := Lib.hid (by simp [tpC, h1, h2])
  clear h1 h2
  cases h3 : eq2 a.1 (tyE a) b.1 (tyE b)
  · have hr : Hid (tpC a b = 4) := Lib.hid (by rw [hr0.out, tyNe_eq, h3]; rfl)
    go_enter Try.func56, Try.ntmps56
    go_wp2_with (first | (go_at_call 47; refine Calls.mono (l03Ok_any a.1 a.2.1 a.2.2 _ ha2) ?_; rw [H1.out]; rintro e w1 ⟨rfl, hb⟩; obtain ⟨X, m, rfl⟩ := plsOf hb; clear hb) | (go_at_call 47; refine Calls.mono (l03Ok_any b.1 b.2.1 b.2.2 _ hb2) ?_; rw [H2.out]; rintro e w1 ⟨rfl, hb⟩; obtain ⟨X, m, rfl⟩ := plsOf hb; clear hb))
    (refine wp_region_held_drew (S := (fun w' => w'.cell? ⟨w.heap.size, 0, none⟩ = some (.int .i64 a.1) ∧ w'.cell? ⟨w.heap.size, 1, none⟩ = some (.int .i64 a.2.1) ∧ w'.cell? ⟨w.heap.size, 2, none⟩ = some (.int .u32 a.2.2) ∧ w'.cell? ⟨w.heap.size + 1, 0, none⟩ = some (.int .i64 b.1) ∧ w'.cell? ⟨w.heap.size + 1, 1, none⟩ = some (.int .i64 b.2.1) ∧ w'.cell? ⟨w.heap.size + 1, 2, none⟩ = some (.int .u32 b.2.2))) (by kernel_rfl) ?_ (fun hHeld => ?_); (focus (first | (simp [*, go_sem]; done) | fail)); refine rg_take 0 (some 13) (v := ?_) rfl (by kernel_rfl) (by kernel_rfl) (by kernel_rfl) (by kernel_rfl) (fun _ _ _ h => h) (Or.inl ⟨by kernel_rfl, ?_⟩) (by assumption) ?_; rotate_left; (focus (intro w' hSw; (try dsimp only at hSw); go_simp; (try with_reducible rfl))); (try simp only [Act.put, List.setIfInBounds_toArray, List.set_cons_zero, List.set_cons_succ]); refine rg_take 2 (some 15) (v := ?_) rfl (by kernel_rfl) (by kernel_rfl) (by kernel_rfl) (by kernel_rfl) (fun _ _ _ h => h) (Or.inl ⟨by kernel_rfl, ?_⟩) (by assumption) ?_; rotate_left; (focus (intro w' hSw; (try dsimp only at hSw); go_simp; (try with_reducible rfl))); (try simp only [Act.put, List.setIfInBounds_toArray, List.set_cons_zero, List.set_cons_succ]); refine wpAnyH_ready (rs := [1]) (by kernel_rfl) (by simp) ?_; refine AllReadyH.cons rfl (fun K hK => ?_) AllReadyH.nil; go_simp; (go_at_call 49; refine Calls.mono (l03Type_i _ a hab) ?_; rintro e w1 ⟨rfl, hb⟩; obtain ⟨X1, m1, rfl⟩ := plsOf hb; clear hb); go_wp2_with fail; refine hK.out _ _ ?_ (fun hHeld => ?_); (focus (first | (simp [*, go_sem]; done) | fail)); clear hK K; (try simp only [Act.put, List.setIfInBounds_toArray, List.set_cons_zero, List.set_cons_succ]); refine wpAnyH_ready (rs := [3]) (by kernel_rfl) (by simp) ?_; refine AllReadyH.cons rfl (fun K hK => ?_) AllReadyH.nil; go_simp; (go_at_call 49; refine Calls.mono (l03Type_i _ b hbb) ?_; rintro e w1 ⟨rfl, hb⟩; obtain ⟨X2, m2, rfl⟩ := plsOf hb; clear hb); go_wp2_with fail; refine hK.out _ _ ?_ (fun hHeld => ?_); (focus (first | (simp [*, go_sem]; done) | fail)); clear hK K; (try simp only [Act.put, List.setIfInBounds_toArray, List.set_cons_zero, List.set_cons_succ]); refine rg_take 4 (some 17) (v := ?_) rfl (by kernel_rfl) (by kernel_rfl) (by kernel_rfl) (by kernel_rfl) (fun _ _ _ h => h) (Or.inl ⟨by kernel_rfl, ?_⟩) (by assumption) ?_; rotate_left; (focus (intro w' hSw; (try dsimp only at hSw); go_simp; (try with_reducible rfl))); (try simp only [Act.put, List.setIfInBounds_toArray, List.set_cons_zero, List.set_cons_succ]); refine wpAnyH_done (by kernel_rfl) ?_ _)
    clear hHeld
    go_wp2_with fail
    exact bodyPost_ret (v := .int .i64 4) (by simp [results, Try.results56, go_sem]) rfl ⟨by rw [hr.out], (by (try with_reducible refine bsz ?_); repeat (first | with_reducible exact Below.refl _ _ | ((with_reducible refine bpre ?_); (try simp only [Array.append_assoc]); repeat (first | with_reducible exact Pre.refl _ | with_reducible exact Pre.base _ _ | with_reducible refine Pre.cons _ ?_)) | with_reducible assumption | ((with_reducible refine bsetr ?_); rfl) | with_reducible refine Below.setCell ?_ (by simp <;> omega) _ | with_reducible refine bpl ?_ _ _ | with_reducible refine bal ?_ _ | with_reducible refine bdrew1 ?_ | with_reducible refine bdrew ?_ _))⟩
  · have hr : Hid (tpC a b = 0) := Lib.hid (by rw [hr0.out, tyNe_eq, h3]; rfl)
    go_enter Try.func56, Try.ntmps56
    go_wp2_with (first | (go_at_call 47; refine Calls.mono (l03Ok_any a.1 a.2.1 a.2.2 _ ha2) ?_; rw [H1.out]; rintro e w1 ⟨rfl, hb⟩; obtain ⟨X, m, rfl⟩ := plsOf hb; clear hb) | (go_at_call 47; refine Calls.mono (l03Ok_any b.1 b.2.1 b.2.2 _ hb2) ?_; rw [H2.out]; rintro e w1 ⟨rfl, hb⟩; obtain ⟨X, m, rfl⟩ := plsOf hb; clear hb))
    (refine wp_region_held_drew (S := (fun w' => w'.cell? ⟨w.heap.size, 0, none⟩ = some (.int .i64 a.1) ∧ w'.cell? ⟨w.heap.size, 1, none⟩ = some (.int .i64 a.2.1) ∧ w'.cell? ⟨w.heap.size, 2, none⟩ = some (.int .u32 a.2.2) ∧ w'.cell? ⟨w.heap.size + 1, 0, none⟩ = some (.int .i64 b.1) ∧ w'.cell? ⟨w.heap.size + 1, 1, none⟩ = some (.int .i64 b.2.1) ∧ w'.cell? ⟨w.heap.size + 1, 2, none⟩ = some (.int .u32 b.2.2))) (by kernel_rfl) ?_ (fun hHeld => ?_); (focus (first | (simp [*, go_sem]; done) | fail)); refine rg_take 0 (some 13) (v := ?_) rfl (by kernel_rfl) (by kernel_rfl) (by kernel_rfl) (by kernel_rfl) (fun _ _ _ h => h) (Or.inl ⟨by kernel_rfl, ?_⟩) (by assumption) ?_; rotate_left; (focus (intro w' hSw; (try dsimp only at hSw); go_simp; (try with_reducible rfl))); (try simp only [Act.put, List.setIfInBounds_toArray, List.set_cons_zero, List.set_cons_succ]); refine rg_take 2 (some 15) (v := ?_) rfl (by kernel_rfl) (by kernel_rfl) (by kernel_rfl) (by kernel_rfl) (fun _ _ _ h => h) (Or.inl ⟨by kernel_rfl, ?_⟩) (by assumption) ?_; rotate_left; (focus (intro w' hSw; (try dsimp only at hSw); go_simp; (try with_reducible rfl))); (try simp only [Act.put, List.setIfInBounds_toArray, List.set_cons_zero, List.set_cons_succ]); refine wpAnyH_ready (rs := [1]) (by kernel_rfl) (by simp) ?_; refine AllReadyH.cons rfl (fun K hK => ?_) AllReadyH.nil; go_simp; (go_at_call 49; refine Calls.mono (l03Type_i _ a hab) ?_; rintro e w1 ⟨rfl, hb⟩; obtain ⟨X1, m1, rfl⟩ := plsOf hb; clear hb); go_wp2_with fail; refine hK.out _ _ ?_ (fun hHeld => ?_); (focus (first | (simp [*, go_sem]; done) | fail)); clear hK K; (try simp only [Act.put, List.setIfInBounds_toArray, List.set_cons_zero, List.set_cons_succ]); refine wpAnyH_ready (rs := [3]) (by kernel_rfl) (by simp) ?_; refine AllReadyH.cons rfl (fun K hK => ?_) AllReadyH.nil; go_simp; (go_at_call 49; refine Calls.mono (l03Type_i _ b hbb) ?_; rintro e w1 ⟨rfl, hb⟩; obtain ⟨X2, m2, rfl⟩ := plsOf hb; clear hb); go_wp2_with fail; refine hK.out _ _ ?_ (fun hHeld => ?_); (focus (first | (simp [*, go_sem]; done) | fail)); clear hK K; (try simp only [Act.put, List.setIfInBounds_toArray, List.set_cons_zero, List.set_cons_succ]); refine rg_take 4 (some 17) (v := ?_) rfl (by kernel_rfl) (by kernel_rfl) (by kernel_rfl) (by kernel_rfl) (fun _ _ _ h => h) (Or.inl ⟨by kernel_rfl, ?_⟩) (by assumption) ?_; rotate_left; (focus (intro w' hSw; (try dsimp only at hSw); go_simp; (try with_reducible rfl))); (try simp only [Act.put, List.setIfInBounds_toArray, List.set_cons_zero, List.set_cons_succ]); refine wpAnyH_done (by kernel_rfl) ?_ _)
    clear hHeld
    go_wp2_with fail
    exact bodyPost_ret (v := .int .i64 0) (by simp [results, Try.results56, go_sem]) rfl ⟨by rw [hr.out], (by (try with_reducible refine bsz ?_); repeat (first | with_reducible exact Below.refl _ _ | ((with_reducible refine bpre ?_); (try simp only [Array.append_assoc]); repeat (first | with_reducible exact Pre.refl _ | with_reducible exact Pre.base _ _ | with_reducible refine Pre.cons _ ?_)) | with_reducible assumption | ((with_reducible refine bsetr ?_); rfl) | with_reducible refine Below.setCell ?_ (by simp <;> omega) _ | with_reducible refine bpl ?_ _ _ | with_reducible refine bal ?_ _ | with_reducible refine bdrew1 ?_ | with_reducible refine bdrew ?_ _))⟩
end Go.Proofs.Ytfdobpeekipafaa

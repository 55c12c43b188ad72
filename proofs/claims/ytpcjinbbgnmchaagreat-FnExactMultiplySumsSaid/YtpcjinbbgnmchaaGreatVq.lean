/- Valid sums, the words; impl: fits, flagOrder, ValidSum. -/
import Derived.Test.YtpcjinbbgnmchaaGreatVs
import Derived.Test.YtpcjinbbgnmchaaGreatSl
namespace Go.Proofs.YtpcjinbbgnmchaaGreat
open Go.ChangeShapes Go.WideShapes Go.RowKit
set_option linter.unusedVariables false
set_option linter.unusedSimpArgs false
attribute [local irreducible] Calls
abbrev Trm := Flg × (Int × Int)
def leastF (d : Flg) : Int := leastI d.2.1.toNat d.1.toNat d.2.2
def fitsB (d : Flg) (tn te s : Int) : Bool := (d.2.1 == s) && eq2 d.1 (tyE d) tn te
def okT (tn te s : Int) (d : Trm) : Bool := flV d.1 && fitsB d.1 tn te s && (leastF d.1 == d.1.2.2) && frOk d.2.1 d.2.2 && !(d.2.1 == 0)
def gT (xs : List Trm) (i : Nat) : Trm := xs[i]?.getD ((0, (0, 0)), (0, 0))
def edT (xs : List Trm) (i : Nat) : Int := (gT xs i).1.2.2
def goodAt (tn te s : Int) (xs : List Trm) (i : Nat) : Bool := okT tn te s (gT xs i) && (i == 0 || decide (edT xs (i - 1) < edT xs i))
/-- A valid sum. -/
def sumOk (tn te s : Int) (xs : List Trm) : Bool := grOk tn te && spOk tn s && decide (xs.length ≤ 64) && (List.range xs.length).all (goodAt tn te s xs)
theorem sum_bad {tn te s : Int} {xs : List Trm} {k : Nat} (hk : k < xs.length) (h : goodAt tn te s xs k = false) : sumOk tn te s xs = false := by
  unfold sumOk
  have : (List.range xs.length).all (goodAt tn te s xs) = false := by
    rw [List.all_eq_false]
    exact ⟨k, by simpa using hk, by simp [h]⟩
  rw [this]; simp
theorem gT_at {xs : List Trm} {k : Nat} {d : Trm} (h : xs[k]? = some d) : gT xs k = d := by simp [gT, h]
theorem flN {d : Flg} (h : flV d = true) : ∃ k n : Nat, d.1 = k ∧ d.2.1 = n ∧ k ≤ n ∧ n ≤ 5 ∧ k ≤ 3 := by
  have := (flV_iff d).1 h
  exact ⟨d.1.toNat, d.2.1.toNat, by omega, by omega, by omega, by omega, by omega⟩
theorem sumOk_iff {tn te s : Int} {xs : List Trm} : sumOk tn te s xs = true ↔ grOk tn te = true ∧ spOk tn s = true ∧ xs.length ≤ 64 ∧ ∀ i, i < xs.length → goodAt tn te s xs i = true := by
  simp [sumOk, and_assoc]
theorem sumOk_mem {tn te s : Int} {xs : List Trm} (h : sumOk tn te s xs = true) {t : Trm} (ht : t ∈ xs) : okT tn te s t = true := by
  obtain ⟨i, hi, rfl⟩ := List.mem_iff_getElem.1 ht
  have h1 := (sumOk_iff.1 h).2.2.2 i hi
  rw [goodAt, gT_at (List.getElem?_eq_getElem hi), Bool.and_eq_true] at h1
  exact h1.1
theorem okT_iff {tn te s : Int} {t : Trm} : okT tn te s t = true ↔ flV t.1 = true ∧ fitsB t.1 tn te s = true ∧ leastF t.1 = t.1.2.2 ∧ frOk t.2.1 t.2.2 = true ∧ t.2.1 ≠ 0 := by
  simp [okT, and_assoc]
theorem fitsB_iff {d : Flg} {tn te s : Int} : fitsB d tn te s = true ↔ d.2.1 = s ∧ d.1 = tn ∧ tyE d = te := by simp [fitsB, eq2]
theorem fleast_i (w : World) (d : Flg) (hd : okFlag d) (h : flV d = true) : Calls Tryz.prog 87 #[.agg #[.int .i64 d.1, .int .i64 d.2.1, .int .u32 d.2.2]] w fun e0 w' => e0 = .returned (.agg #[.int .i64 d.1, .int .i64 d.2.1, .int .u32 (leastF d)]) ∧ Below w.heap.size w w' := by
  obtain ⟨k, n, h1, h2, h3, h4, h5⟩ := flN h
  have := fleast_any w n k d.2.2 h4 h3 hd.2.2 (lsts_ok h4 h3)
  rw [leastF, h1, h2]
  exact this
theorem fits_any (w : World) (d : Flg) (tn te s : Int) (h : 0 ≤ d.1 ∧ d.1 ≤ 5) : Calls Tryz.prog 86 #[.agg #[.int .i64 d.1, .int .i64 d.2.1, .int .u32 d.2.2], .agg #[.int .i64 tn, .int .u32 te], .int .i64 s] w fun e0 w' => e0 = .returned (.bool (fitsB d tn te s)) ∧ Below w.heap.size w w' := by
  cases hs : (d.2.1 == s)
  · have hr : Hid (fitsB d tn te s = false) := Lib.hid (by simp [fitsB, hs])
    go_enter Tryz.func86, Tryz.ntmps86
    go_wp2_with fail
    (refine wp_region_held_drew (S := (fun w' => w'.cell? ⟨w.heap.size, 1, none⟩ = some (.int .i64 d.2.1))) (by kernel_rfl) ?_ (fun hHeld => ?_); (focus (simp [*, go_sem])); refine rt 0 (some 7) (v := ?_) rfl rfl ?_ ?_; rotate_left; (focus (intro w' hSw; (try dsimp only at hSw); go_simp; (try with_reducible rfl))); (try simp only [Act.put, nA, nB, nC]); refine rt 1 (some 8) (v := ?_) rfl rfl ?_ ?_; rotate_left; (focus (intro w' hSw; (try dsimp only at hSw); go_simp; (try with_reducible rfl))); (try simp only [Act.put, nA, nB, nC]); refine rt 2 (some 9) (v := ?_) rfl rfl ?_ ?_; rotate_left; (focus (intro w' hSw; (try dsimp only at hSw); go_simp; (try with_reducible rfl))); (try simp only [Act.put, nA, nB, nC]); refine rt 3 (some 10) (v := ?_) rfl rfl ?_ ?_; rotate_left; (focus (intro w' hSw; (try dsimp only at hSw); go_simp; (try with_reducible rfl))); (try simp only [Act.put, nA, nB, nC]); refine rt 4 (some 11) (v := ?_) rfl rfl ?_ ?_; rotate_left; (focus (intro w' hSw; (try dsimp only at hSw); go_simp; (try with_reducible rfl))); (try simp only [Act.put, nA, nB, nC]); refine rt 5 (some 12) (v := ?_) rfl rfl ?_ ?_; rotate_left; (focus (intro w' hSw; (try dsimp only at hSw); go_simp; (try with_reducible rfl))); (try simp only [Act.put, nA, nB, nC]); refine rg_take 6 (some 13) (v := undef) rfl (by kernel_rfl) (by kernel_rfl) (by kernel_rfl) (by kernel_rfl) (fun _ _ _ h => h) (Or.inr ⟨by kernel_rfl, rfl⟩) (by assumption) ?_; (try simp only [Act.put, nA, nB, nC]); refine rg_take 7 (some 14) (v := undef) rfl (by kernel_rfl) (by kernel_rfl) (by kernel_rfl) (by kernel_rfl) (fun _ _ _ h => h) (Or.inr ⟨by kernel_rfl, rfl⟩) (by assumption) ?_; (try simp only [Act.put, nA, nB, nC]); refine rg_take 8 (some 15) (v := undef) rfl (by kernel_rfl) (by kernel_rfl) (by kernel_rfl) (by kernel_rfl) (fun _ _ _ h => h) (Or.inr ⟨by kernel_rfl, rfl⟩) (by assumption) ?_; (try simp only [Act.put, nA, nB, nC]); refine rg_take 9 (some 16) (v := undef) rfl (by kernel_rfl) (by kernel_rfl) (by kernel_rfl) (by kernel_rfl) (fun _ _ _ h => h) (Or.inr ⟨by kernel_rfl, rfl⟩) (by assumption) ?_; (try simp only [Act.put, nA, nB, nC]); refine rt 10 (some 17) (v := ?_) rfl rfl ?_ ?_; rotate_left; (focus (intro w' hSw; (try dsimp only at hSw); go_simp; (try with_reducible rfl))); (try simp only [Act.put, nA, nB, nC]); refine rt 11 (some 6) (v := ?_) rfl rfl ?_ ?_; rotate_left; (focus (intro w' hSw; (try dsimp only at hSw); go_simp; (try with_reducible rfl))); (try simp only [Act.put, nA, nB, nC]); refine wpAnyH_done (by kernel_rfl) ?_ _)
    clear hHeld
    go_wp2_with fail
    exact bodyPost_ret (v := .bool false) (by simp [results, Tryz.results86, go_sem]) rfl ⟨by rw [hr.out], belA⟩
  · have hr : Hid (fitsB d tn te s = eq2 d.1 (tyE d) tn te) := Lib.hid (by simp [fitsB, hs])
    go_enter Tryz.func86, Tryz.ntmps86
    go_wp2_with fail
    (refine wp_region_held_drew (S := (fun w' => w'.cell? ⟨w.heap.size, 0, none⟩ = some (.int .i64 d.1) ∧ w'.cell? ⟨w.heap.size, 1, none⟩ = some (.int .i64 d.2.1) ∧ w'.cell? ⟨w.heap.size, 2, none⟩ = some (.int .u32 d.2.2) ∧ w'.cell? ⟨w.heap.size + 1, 0, none⟩ = some (.int .i64 tn) ∧ w'.cell? ⟨w.heap.size + 1, 1, none⟩ = some (.int .u32 te))) (by kernel_rfl) ?_ (fun hHeld => ?_); (focus (simp [*, go_sem])); refine rt 0 (some 7) (v := ?_) rfl rfl ?_ ?_; rotate_left; (focus (intro w' hSw; (try dsimp only at hSw); go_simp; (try with_reducible rfl))); (try simp only [Act.put, nA, nB, nC]); refine rt 1 (some 8) (v := ?_) rfl rfl ?_ ?_; rotate_left; (focus (intro w' hSw; (try dsimp only at hSw); go_simp; (try with_reducible rfl))); (try simp only [Act.put, nA, nB, nC]); refine rt 2 (some 9) (v := ?_) rfl rfl ?_ ?_; rotate_left; (focus (intro w' hSw; (try dsimp only at hSw); go_simp; (try with_reducible rfl))); (try simp only [Act.put, nA, nB, nC]); refine rt 3 (some 10) (v := ?_) rfl rfl ?_ ?_; rotate_left; (focus (intro w' hSw; (try dsimp only at hSw); go_simp; (try with_reducible rfl))); (try simp only [Act.put, nA, nB, nC]); refine rt 4 (some 11) (v := ?_) rfl rfl ?_ ?_; rotate_left; (focus (intro w' hSw; (try dsimp only at hSw); go_simp; (try with_reducible rfl))); (try simp only [Act.put, nA, nB, nC]); refine rt 5 (some 12) (v := ?_) rfl rfl ?_ ?_; rotate_left; (focus (intro w' hSw; (try dsimp only at hSw); go_simp; (try with_reducible rfl))); (try simp only [Act.put, nA, nB, nC]); refine rt 6 (some 13) (v := ?_) rfl rfl ?_ ?_; rotate_left; (focus (intro w' hSw; (try dsimp only at hSw); go_simp; (try with_reducible rfl))); (try simp only [Act.put, nA, nB, nC]); refine rt 8 (some 15) (v := ?_) rfl rfl ?_ ?_; rotate_left; (focus (intro w' hSw; (try dsimp only at hSw); go_simp; (try with_reducible rfl))); (try simp only [Act.put, nA, nB, nC]); refine wpAnyH_ready (rs := [7]) (by kernel_rfl) (by simp) ?_; refine AllReadyH.cons rfl (fun K hK => ?_) AllReadyH.nil; go_simp; (go_at_call 150; refine Calls.mono (typeOf_i _ d h) ?_; rintro e w1 ⟨rfl, hb⟩; obtain ⟨X1, m1, rfl⟩ := plsOf hb; clear hb); go_wp2_with fail; refine hK.out _ _ ?_ (fun hHeld => ?_); (focus (simp [*, go_sem])); clear hK K; (try simp only [Act.put, nA, nB, nC]); refine rt 9 (some 16) (v := ?_) rfl rfl ?_ ?_; rotate_left; (focus (intro w' hSw; (try dsimp only at hSw); go_simp; (try with_reducible rfl))); (try simp only [Act.put, nA, nB, nC]); refine rt 10 (some 17) (v := ?_) rfl rfl ?_ ?_; rotate_left; (focus (intro w' hSw; (try dsimp only at hSw); go_simp; (try with_reducible rfl))); (try simp only [Act.put, nA, nB, nC]); refine rt 11 (some 6) (v := ?_) rfl rfl ?_ ?_; rotate_left; (focus (intro w' hSw; (try dsimp only at hSw); go_simp; (try with_reducible rfl))); (try simp only [Act.put, nA, nB, nC]); refine wpAnyH_done (by kernel_rfl) ?_ _)
    clear hHeld
    go_wp2_with fail
    exact bodyPost_ret (v := .bool (eq2 d.1 (tyE d) tn te)) (by simp [results, Tryz.results86, go_sem]) rfl ⟨by rw [hr.out], belA⟩
def cmpI (a b : Int) : Int := if a < b then -1 else if b < a then 1 else 0
theorem isNaNu_any (a : Int) (w : World) : Calls Tryz.prog 201 #[.int .u32 a] w fun e w' => e = .returned (.bool false) ∧ w = w' := by
  have h : (a != a) = false := by simp
  go_enter Tryz.func201, Tryz.ntmps201
  go_wp2_with fail
  go_ret
  exact ⟨rfl, rfl⟩
theorem cmpu_any (a b : Int) (w : World) : Calls Tryz.prog 153 #[.int .u32 a, .int .u32 b] w fun e w' => e = .returned (.int .i64 (cmpI a b)) ∧ w = w' := by
  by_cases h1 : a < b
  · have hr : Hid (cmpI a b = -1) := Lib.hid (if_pos h1)
    go_enter Tryz.func153, Tryz.ntmps153
    go_wp2_with (first | (go_at_call 201; refine Calls.mono (isNaNu_any _ _) ?_; rintro e w1 ⟨rfl, rfl⟩))
    go_ret
    exact ⟨ret_int (by rw [hr.out]), rfl⟩
  · by_cases h2 : b < a
    · have hr : Hid (cmpI a b = 1) := Lib.hid (by simp [cmpI, h1, h2])
      have h3 : ¬ a < b := h1
      go_enter Tryz.func153, Tryz.ntmps153
      go_wp2_with (first | (go_at_call 201; refine Calls.mono (isNaNu_any _ _) ?_; rintro e w1 ⟨rfl, rfl⟩))
      go_ret
      exact ⟨ret_int (by rw [hr.out]), rfl⟩
    · have hr : Hid (cmpI a b = 0) := Lib.hid (by simp [cmpI, h1, h2])
      go_enter Tryz.func153, Tryz.ntmps153
      go_wp2_with (first | (go_at_call 201; refine Calls.mono (isNaNu_any _ _) ?_; rintro e w1 ⟨rfl, rfl⟩))
      go_ret
      exact ⟨ret_int (by rw [hr.out]), rfl⟩
theorem flagOrder_any (d f : Flg) (w : World) : Calls Tryz.prog 89 #[.agg #[.int .i64 d.1, .int .i64 d.2.1, .int .u32 d.2.2], .agg #[.int .i64 f.1, .int .i64 f.2.1, .int .u32 f.2.2]] w fun e w' => e = .returned (.int .i64 (cmpI d.2.2 f.2.2)) ∧ Below w.heap.size w w' := by
  go_enter Tryz.func89, Tryz.ntmps89
  go_wp2_with (first | (go_at_call 153; refine Calls.mono (cmpu_any _ _ _) ?_; rintro e w1 ⟨rfl, rfl⟩))
  exact bodyPost_ret (v := .int .i64 (cmpI d.2.2 f.2.2)) (by simp [results, Tryz.results89, go_sem]) rfl ⟨rfl, belA⟩
end Go.Proofs.YtpcjinbbgnmchaaGreat

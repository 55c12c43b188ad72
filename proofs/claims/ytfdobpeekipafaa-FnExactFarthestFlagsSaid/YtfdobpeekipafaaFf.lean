/- The farthest of two flags' densities: the plain law; impl.compare. -/
import Derived.Test.YtfdobpeekipafaaTh
namespace Go.Proofs.Ytfdobpeekipafaa
open Go.ChangeShapes Go.WideShapes Go.RowKit
set_option linter.unusedVariables false
set_option linter.unusedSimpArgs false
attribute [local irreducible] Calls
def cmpS (a b : Int) : Int := if a < b then -1 else if b < a then 1 else 0
def inM (d : Int × Int) : Prop := -1000 ≤ d.1 ∧ d.1 ≤ 1000 ∧ 1 ≤ d.2 ∧ d.2 ≤ 1000
theorem inM_inF {d : Int × Int} (h : inM d) : inF d := by
  unfold inM at h
  unfold inF
  omega
theorem inM.prod {x y : Int × Int} (hx : inM x) (hy : inM y) : -1000000000000000000 ≤ x.1 * y.2 ∧ x.1 * y.2 ≤ 1000000000000000000 := by
  unfold inM at hx hy
  exact mul_bd x.1 y.2 (by omega) (by omega) (by omega) (by omega)
def absF (d : Int × Int) : Int × Int := (absI d.1, d.2)
theorem absF_in {d : Int × Int} (h : inM d) : inM (absF d) := by
  unfold inM absF absI at *
  simp only at *
  omega
/-- The code, and the greatest distance so far. -/
def faC (f h : Flg) : Int := if flV f && flV h then (if tyNe f h then 4 else if 4 < f.2.1 ∨ 4 < h.2.1 then 2 else 0) else 1
def faD (k : Nat) (f h x : Flg) : Int × Int := (subO (dns k 4 x.2.2 f) (dns k 4 x.2.2 h)).getD (0, 1)
def faB (m d : Int × Int) : Int × Int := if 0 < cmpS ((absF d).1 * m.2) (m.1 * (absF d).2) then absF d else m
def faF (k : Nat) (f h : Flg) (L : List Flg) : Int × Int := L.foldl (fun m x => faB m (faD k f h x)) (0, 1)
def faR (f h : Flg) : Int × Int := if faC f h = 0 then faF f.1.toNat f h (flagsF f.1.toNat (tyE f) 4 []) else (0, 0)
def FaI (k : Nat) (f h : Flg) (L : List Flg) (a : Nat) (m : Int × Int) : Prop := faF k f h (L.take a) = m ∧ inM m
theorem FaI.start (k : Nat) (f h : Flg) (L : List Flg) : FaI k f h L 0 (0, 1) := ⟨rfl, by unfold inM; decide⟩
theorem Vl.scale {d : Int × Int} {N D : Int} (h : Vl d N D) (c : Int) : Vl d (N * c) (D * c) := ⟨h.1, h.2.1, by rw [← Int.mul_assoc, h.2.2, Int.mul_right_comm]⟩
theorem fa_sub {x y : Int × Int} {N1 N2 C1 C2 : Int} (hx : Vl x N1 C1) (hy : Vl y N2 C2) (h1 : 0 ≤ N1 ∧ N1 ≤ 100) (h2 : 0 ≤ N2 ∧ N2 ≤ 100) (h3 : 1 ≤ C1 ∧ C1 ≤ 10) (h4 : 1 ≤ C2 ∧ C2 ≤ 10) :
    ∃ d, subO x y = some d ∧ inF x ∧ inF y ∧ inM d := by
  have hC : 1 ≤ C1 * C2 ∧ C1 * C2 ≤ 100 := by
    have a1 : 1 * 1 ≤ C1 * C2 := Int.mul_le_mul h3.1 h4.1 (by omega) (by omega)
    have a2 : C1 * C2 ≤ 10 * 10 := Int.mul_le_mul h3.2 h4.2 (by omega) (by omega)
    omega
  have hN : 0 ≤ N1 * C2 ∧ N1 * C2 ≤ 1000 := by
    have a1 := Int.mul_nonneg h1.1 (show 0 ≤ C2 by omega)
    have a2 : N1 * C2 ≤ 100 * 10 := Int.mul_le_mul h1.2 h4.2 (by omega) (by omega)
    omega
  have hM : 0 ≤ N2 * C1 ∧ N2 * C1 ≤ 1000 := by
    have a1 := Int.mul_nonneg h2.1 (show 0 ≤ C1 by omega)
    have a2 : N2 * C1 ≤ 100 * 10 := Int.mul_le_mul h2.2 h3.2 (by omega) (by omega)
    omega
  have hs := hx.scale C2
  have ht := (hy.neg).scale C1
  rw [Int.mul_comm C2 C1, Int.neg_mul] at ht
  have ha := hs.add ht
  obtain ⟨s1, _⟩ := ha.small hC.1 (by omega) (by omega)
  obtain ⟨b1, b2⟩ := ha.bd hC.1
  have b3 := ha.1
  refine ⟨_, smallO_of s1, (hx.small h3.1 (by omega) (by omega)).2, (hy.small h4.1 (by omega) (by omega)).2, ?_⟩
  unfold inM
  omega
theorem faB_in {m d : Int × Int} (hm : inM m) (hd : inM d) : inM (faB m d) := by
  unfold faB
  split
  · exact absF_in hd
  · exact hm
theorem FaI.step {k : Nat} {f h x : Flg} {L : List Flg} {a : Nat} {m d : Int × Int} (hI : FaI k f h L a m) (hx : L[a]? = some x) (hd : subO (dns k 4 x.2.2 f) (dns k 4 x.2.2 h) = some d) (hdm : inM d) : FaI k f h L (a + 1) (faB m d) := by
  refine ⟨?_, faB_in hI.2 hdm⟩
  have h1 := hI.1
  unfold faF at *
  rw [List.take_add_one, hx, List.foldl_append, h1]
  show faB m (faD k f h x) = faB m d
  unfold faD
  rw [hd]
  rfl
theorem isNaNi_any (a : Int) (w : World) : Calls Try.prog 159 #[.int .i64 a] w fun e w' => e = .returned (.bool false) ∧ w = w' := by
  have h : (a != a) = false := by simp
  go_enter Try.func159, Try.ntmps159
  go_wp2_with fail
  go_ret
  exact ⟨rfl, rfl⟩
theorem cmpi_any (a b : Int) (w : World) : Calls Try.prog 124 #[.int .i64 a, .int .i64 b] w fun e w' => e = .returned (.int .i64 (cmpS a b)) ∧ w = w' := by
  by_cases h1 : a < b
  · have hr : Hid (cmpS a b = -1) := Lib.hid (if_pos h1)
    go_enter Try.func124, Try.ntmps124
    go_wp2_with (first | (go_at_call 159; refine Calls.mono (isNaNi_any _ _) ?_; rintro e w1 ⟨rfl, rfl⟩))
    go_ret
    exact ⟨ret_int (by rw [hr.out]), rfl⟩
  · by_cases h2 : b < a
    · have hr : Hid (cmpS a b = 1) := Lib.hid (by simp [cmpS, h1, h2])
      have h3 : ¬ a < b := h1
      go_enter Try.func124, Try.ntmps124
      go_wp2_with (first | (go_at_call 159; refine Calls.mono (isNaNi_any _ _) ?_; rintro e w1 ⟨rfl, rfl⟩))
      go_ret
      exact ⟨ret_int (by rw [hr.out]), rfl⟩
    · have hr : Hid (cmpS a b = 0) := Lib.hid (by simp [cmpS, h1, h2])
      go_enter Try.func124, Try.ntmps124
      go_wp2_with (first | (go_at_call 159; refine Calls.mono (isNaNi_any _ _) ?_; rintro e w1 ⟨rfl, rfl⟩))
      go_ret
      exact ⟨ret_int (by rw [hr.out]), rfl⟩
theorem compare_any (x y : Int × Int) (w : World) (hx : inM x) (hy : inM y) : Calls Try.prog 78 #[.agg #[.int .i64 x.1, .int .i64 x.2], .agg #[.int .i64 y.1, .int .i64 y.2]] w fun e w' => e = .returned (.int .i64 (cmpS (x.1 * y.2) (y.1 * x.2))) ∧ Below w.heap.size w w' := by
  obtain ⟨b1, b2⟩ := hx.prod hy
  obtain ⟨b3, b4⟩ := hy.prod hx
  go_enter Try.func78, Try.ntmps78
  go_wp2_with (first | (go_at_call 124; refine Calls.mono (cmpi_any _ _ _) ?_; rintro e w1 ⟨rfl, rfl⟩))
  exact bodyPost_ret (v := .int .i64 (cmpS (x.1 * y.2) (y.1 * x.2))) (by simp [results, Try.results78, go_sem]) rfl ⟨rfl, (by (try with_reducible refine bsz ?_); repeat (first | with_reducible exact Below.refl _ _ | ((with_reducible refine bpre ?_); (try simp only [Array.append_assoc]); repeat (first | with_reducible exact Pre.refl _ | with_reducible exact Pre.base _ _ | with_reducible refine Pre.cons _ ?_)) | with_reducible assumption | ((with_reducible refine bsetr ?_); rfl) | with_reducible refine Below.setCell ?_ (by simp <;> omega) _ | with_reducible refine bpl ?_ _ _ | with_reducible refine bal ?_ _ | with_reducible refine bdrew1 ?_ | with_reducible refine bdrew ?_ _))⟩
end Go.Proofs.Ytfdobpeekipafaa
